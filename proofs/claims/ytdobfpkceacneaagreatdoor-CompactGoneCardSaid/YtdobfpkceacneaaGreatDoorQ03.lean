/- The abstract machine, the walk of the law and its plain laws, made small by a program; part 3: no conditions but those in each theorem. -/
import Derived.Test.YtdobfpkceacneaaGreatDoorQ02
import Derived.Test.YtdobfpkceacneaaGreatDoorChecked
import Derived.KernelRfl
set_option maxHeartbeats 16000000
set_option maxRecDepth 100000
set_option linter.unusedSimpArgs false
set_option linter.unusedVariables false
set_option linter.defProp false
noncomputable section
open Array renaming getD_eq_getD_getElem?→LO,getElem?_eq_getElem→D6,getElem?_eq_some_iff→fU,getElem?_toList→fW,replicate→tZ
open Array.mk renaming injEq→G6
open Bool renaming and_eq_true→dz,and_true→sY,eq_iff_iff→qu,false_and→zB,false_eq_true→ed,not_false→xQ,not_true→sZ,or_eq_false_iff→Bs,or_eq_true→D7,true_and→t_,false→af,true→aa
open Classical renaming byContradiction→xT
open Go renaming Code→aH,IntKind→cY,Operand→bA,Program→cI,TypeId→aj,Value→O,World→aG
open Int renaming ofNat→cO,ofNat_eq_natCast→ig
open Int.ofNat renaming inj→zK
open List renaming all_cons→Eb,all_eq_true→ov,append_assoc→jD,append_nil→kR,cons_append→ij,drop_eq_getElem_cons→nb,drop_eq_nil_iff→Hf,exists_mem_of_ne_nil→Hi,filter_cons→kS,filter_eq_self→Bw,findIdx?_eq_none_iff→Hk,findIdx?_eq_some_iff_getElem→Hl,flatMap_cons→j',flatten_append→Bx,flatten_cons→s9,flatten_nil→Hm,foldl_cons→mG,getElem?_append_left→eG,getElem?_append_right→ez,getElem?_cons_succ→dU,getElem?_cons_zero→dX,getElem?_eq_getElem→aV,getElem?_eq_none→lW,getElem?_eq_some_iff→bg,getElem?_map→da,getElem?_range→zN,getElem?_set→pR,length→Z,length_append→aU,length_cons→cd,length_eq_zero_iff→eQ,length_map→aR,length_nil→dL,length_set→dI,length_singleton→fg,length_take→db,map_append→fY,map_cons→eU,map_eq_nil_iff→mH,map_map→zO,map_nil→rB,mem_append→mI,mem_cons→cC,mem_cons_of_mem→cU,mem_cons_self→cM,mem_filter→qy,mem_flatMap→BB,mem_map→dA,mem_of_getElem?→fh,mem_of_mem_take→wa,mem_or_eq_of_mem_set→zP,mem_singleton→ee,nil_append→lX,nodup_append→we,pairwise_cons→wg,range→jE,replicate→fq,set_append_right→BC,take_append_drop→s_,take_succ_eq_append_getElem→eH
open List.cons renaming injEq→ff
open Nat renaming add_assoc→rG,add_comm→ye,add_mul→oZ,add_zero→dN,beq→aL,beq_eq→pS,beq_refl→uj,ble→au,ble_eq→pT,ble_eq_true_of_le→mJ,blt→aM,blt_eq→bT,div_lt_iff_lt_mul→Hs,eq_of_beq_eq_true→dZ,le_of_ble_eq_true→fQ,le_of_lt→Ef,le_refl→aJ,le_trans→dp,log2_lt→Eg,lt_irrefl→gY,lt_of_le_of_lt→pU,lt_of_lt_of_le→dc,lt_or_ge→d_,lt_succ_self→yg,lt_trichotomy→zX,max_eq_left→Ht,max_eq_right→yh,min_eq_left→oA,min_eq_right→zY,min_le_left→Eh,min_le_right→Hu,mod_lt→iU,mul_le_mul_right→BJ,mul_mod_right→Ej,mul_one→nf,ne_of_beq_eq_false→Hv,not_lt_zero→BK,one_mul→ta,pow_add→BL,pow_le_pow_right→rI,reduceAdd→ak,reduceEqDiff→V,shiftLeft_eq→Hw,shiftRight_eq_div_pow→uk,strongRecOn→yi,sub_add_cancel→wh,sub_self→gZ,sub_zero→iV,succ→qA,two_pow_pos→yj,zero_add→dO,zero_le→a6,zero_mul→oB
open Option renaming bind_some→wj,getD_some→td,isSome_none→yl,map_some→fZ,ne_none_iff_exists'→L3,none→Y,some→U
open Option.some renaming inj→je,injEq→eM
open Prod.mk renaming injEq→bf
open Go.Result renaming andThen_ok→aQ
open Go.Sem renaming run_bind→aP,run_pure→aW
open Go.Proofs.Tryz renaming checked→uq,f181→qJ,f254→jH,prog→dq
open UInt8 renaming ofNat→lZ,toNat_inj→yI,toNat_ofNat_of_lt'→HL
namespace Go.Am
section
variable {tb:aO}{ih:aH->St->R (Ex×St)}
def Sl(t:T O):List (Nat×O)->Prop
 | []=>True
 |p::l=>t.get p.1=U p.2/\Sl t l
def U7(t:T O)(i:Nat)(v:O)(l:List (Nat×O)):Sl t ((i,v)::l)=(t.get i=U v/\Sl t l):=rfl
def U8(t:T O):Sl t []=True:=rfl
variable {s':St}
def W.ct{c:aH}{s:St}{K:Ex->St->Prop}(g f:Nat){e:Ex}(h:∀M,g<=M->exec tb (M+f) c s=.ok (e,s'))(k:K e s'):W tb c s K:=
 ⟨e,s',⟨g+f,λ m=>by rw[<-rG];exact h _ (Nat.le_add_left _ _)⟩,k⟩
variable {n:Nat}{t:T O}{A:Mem}
def W.up{c:aH}{d:List Nat}{ro:Option Nat}{K:Ex->St->Prop}(N:Nat)(P:Nat->T O->Mem->Prop)
 (hb:∀k t A,k<=N->P k t A->W tb c ⟨t,n,d,A,ro⟩ λ e s'=>match e with
  |.nrm=>k<N/\∃t' A',s'=⟨t',n,d,A',ro⟩/\P (k+1) t' A'
  |e=>K e s'){k:Nat}(hk:k<=N)(hp:P k t A):W tb (.loop c) ⟨t,n,d,A,ro⟩ K:=by
 have main:∀j k t A,k+j=N->P k t A->W tb (.loop c) ⟨t,n,d,A,ro⟩ K:=by
  intro j
  induction j with
  |zero=>
   intro k t A hk hp;refine W.round ((hb k t A (by omega) hp).mono λ e s' h=>?_);cases e with
   |nrm=>exact aZ h.1 (by omega)
   |_=>exact h
  |succ j ih=>
   intro k t A hk hp;refine W.round ((hb k t A (by omega) hp).mono λ e s' h=>?_);cases e with
   |nrm=>
    obtain⟨_,t',A',rfl,h'⟩:=h;exact ih (k+1) t' A' (by omega) h'
   |_=>exact h
 exact main (N-k) k t A (by omega) hp
def az(tb:aO)(f:FuncId)(args:List O)(A:Mem)(v:O)(A':Mem):Prop:=∃g,∀M,g<=M->cH tb (exec tb M) (.fn f args) A=.ok (.val v A')
variable {fn:Func}
def mc {f:FuncId} {c:Code} {args:List Value} {Q:Value->Mem->Prop} (hf:tb.fn.get f=some fn) (hb:fn.body=some c) (hn:args.length<=fn.ntmps) (hnm:(fn.name== "runtime.NumGoroutine")=false) (hk:tb.hk.get f=none)
 (h:W tb c ⟨T.bP .e 0 args,fn.ntmps,[],A,Y⟩ λ e s=>(e=.nrm\/e=.ret)/\∃A' vs,gU s.d s.m=.ok A'/\eC tb s.t A'.get fn.results.toList=.ok vs/\Q (oneOf vs) A'):
 ∃v A',az tb f args A v A'/\Q v A':=by
 obtain⟨v,A',⟨g,h1⟩,h2⟩:=M9 hf hb hn hnm hk h;refine⟨v,A',⟨g,λ M hM=>?_⟩,h2⟩;have:=h1 (M-g);rwa[wh hM]at this
variable {A':Mem}
def Mk {f:FuncId} {c:Code} {args:List Value} {v:Value} (hf:tb.fn.get f=some fn) (hb:fn.body=some c) (hnm:(fn.name== "runtime.NumGoroutine")=false) (hk:tb.hk.get f=none) (h:az tb f args A v A'):xR tb f args A v A':=by
 obtain⟨g,hg⟩:=h;refine⟨g,?_⟩;have h1:=hg g (aJ _);unfold cH at h1;simp only[hf,hb,hnm,hk,ba]at h1;unfold call;simp only[hf,hb];exact h1
section
variable (dst:Option Tmp)(ty:aj)(pos:String)(after:Array Edge)(g:Option (Nat×Bool))(s:St)(k:St->R (Ex×St))
def fb(f:FuncId)(a b:Array bA):bB tb ih {dst,op:=.makeFunc (.func f) a b,type:=ty,pos,after,guard:=g} s k=
 (eI s.t a.toList).bind λ a=>(eI s.t b.toList).bind λ b=>bS s dst (.func (.func f) ⟨a⟩ ⟨b⟩) k:=by
 rw[mX _ _ _ _ _ _ _ rfl rfl];simp only[gT,R.ec,R.aT]
def ER(tb:aO)(ih:aH->St->R (Ex×St))(fv:O)(a:List O)(A:Mem):R nh:=(tK tb A.get fv a).bind λ cl=>cH tb ih cl A
def X4(f:FuncId)(x y:List O)(a:List O)(A:Mem):ER tb ih (.func (.func f) ⟨x⟩ ⟨y⟩) a A=cH tb ih (.fn f (x++a++y)) A:=rfl
def X5(l:Nat)(x y:Array O)(a:List O)(A:Mem):ER tb ih (.func (.yield l) x y) a A=cH tb ih (.round l a) A:=rfl
def qcX(x:Nat)(args:Array bA)(ts:Array aj):bB tb ih {dst,op:=.call {callee:=.value (.tmp x),args,argTypes:=ts},type:=ty,pos,after,guard:=g} s k=
 (eI s.t args.toList).bind λ a=>(ev s.t (.tmp x)).bind λ fv=>(ER tb ih fv a s.m).bind λ r=>AT s dst k r:=by
 unfold bB;show((qc tb s.t s.m.get {callee:=.value (.tmp x),args,argTypes:=ts}).bind λ cl=>(cH tb ih cl s.m).bind λ r=>match r with
  |.val v A=>bS {s with m:=A} dst v k
  |.dR v A=>.ok (.dR v,{s with m:=A}))=_
 unfold qc ER;simp only[R.ec];cases eI s.t args.toList with
 |no _=>rfl
 |ok a=>
  simp only[R.aT];cases ev s.t (.tmp x)with
  |no _=>rfl
  |ok fv=>
   simp only[R.aT];cases tK tb s.m.get fv a with
   |no _=>rfl
   |ok cl=>
    simp only[R.aT];cases cH tb ih cl s.m with
    |no _=>rfl
    |ok r=>cases r<;>rfl
end
def kx(t:T O):ev t (.const (.slice Y 0 0))=.ok (.slice Y 0 0):=rfl
def qU(t:T O):ev t (.const .nilFunc)=.ok .nilFunc:=rfl
def eO(t:T O):ev t (.const (.pointer Y))=.ok (.pointer Y):=rfl
def NY(t:T O):ev t (.const (.map Y))=.ok (.map Y):=rfl
def xp(a b:Int):mu a b=decide (a<b):=by
 have h:∀x y:Nat,aM x y=decide (x<y):=λ x y=>by
  cases hb:aM x y with
  |true=>rw[bT]at hb;simp[hb]
  |false=>
   have:¬x<y:=λ h=>by rw[<-bT,hb]at h;cases h
   simp[this]
 unfold mu;split
 .rw[h];congr 1;simp
 .symm;simp only[decide_eq_false_iff_not];simp only[ig];omega
 .symm;simp only[decide_eq_true_eq];simp only[ig];omega
 .rw[h];congr 1;simp only[eq_iff_iff];omega
def FI(a b:Int):ky a b=decide (a=b):=by
 have h:∀x y:Nat,aL x y=decide (x=y):=λ x y=>by
  cases hb:aL x y with
  |true=>have:=dZ hb;simp[this]
  |false=>have:=Hv hb;simp[this]
 unfold ky;split
 .rw[h];congr 1;simp only[ig,eq_iff_iff];omega
 .rw[h];congr 1;simp only[eq_iff_iff];omega
 .rename_i h1 h2;symm;simp only[decide_eq_false_iff_not];intro hab;subst hab;cases a with
  |ofNat x=>exact h1 x x rfl rfl
  |negSucc x=>exact h2 x x rfl rfl
def u6{k:cY}{a b:Int}:bj .leq k a b=.ok (.bool (decide (a<=b))):=by
 show R.ok (Value.bool (!mu b a))=_;rw[xp];congr 2;by_cases h:a<=b
 .have:¬b<a:=by omega
  simp[h,this]
 .have:b<a:=by omega
  simp[h,this]
def fm{k:cY}{a b:Int}:bj .gtr k a b=.ok (.bool (decide (b<a))):=by
 show R.ok (Value.bool (mu b a))=_;rw[xp]
def iZ{k:cY}{a b:Int}:bj .geq k a b=.ok (.bool (decide (b<=a))):=by
 show R.ok (Value.bool (!mu a b))=_;rw[xp];congr 2;by_cases h:b<=a
 .have:¬a<b:=by omega
  simp[h,this]
 .have:a<b:=by omega
  simp[h,this]
def Kn{k:cY}{a b:Int}:bj .lss k a b=.ok (.bool (decide (a<b))):=by
 show R.ok (Value.bool (mu a b))=_;rw[xp]
def hZ(a b:Nat):((a:Int)<=(b:Int))=(a<=b):=by simp
def fk(a b:Nat):((a:Int)<(b:Int))=(a<b):=by simp
variable {b:Nat}
def max_i64{ts:List aj}{a:Nat}:cQ tb .max ts [.int .i64 a,.int .i64 b]=.ok (.int .i64 (max a b:Nat)):=by
 have e:cQ tb .max ts [.int .i64 a,.int .i64 b]=.ok (.int .i64 (bif aM a b then(b:Int)else(a:Int))):=by
  cases ts<;>rfl
 rw[e];cases h:aM a b with
 |true=>
  have:a<b:=by simpa[bT]using h
  rw[yh (by omega)];rfl
 |false=>
  have:¬a<b:=by intro hx;rw[<-bT,h]at hx;cases hx
  rw[Ht (by omega)];rfl
def qiJ{p:Bool}:Bi .not (.bool p)=.ok (.bool (!p)):=by cases p<;>rfl
def de(A:Mem)(e:aj)(b:Nat)(k:Kd)(l:List O):Prop:=∃c,A.get b=U (.cells e k 0 c)/\∀i,i<Z l->c.get i=l[i]?
def og{e:aj}{k:Kd}{l:List O}(h:A.get b=U (.cells e k 0 (T.bP .e 0 l))):de A e b k l:=
 ⟨_,h,λ i hi=>by rw[T.oO,dO,aC ⟨a6 _,hi⟩,iV]⟩
def de.same{e:aj}{k:Kd}{l:List O}(h:de A e b k l)(hg:A'.get b=A.get b):de A' e b k l:=by
 obtain⟨c,h1,h2⟩:=h;exact⟨c,hg.trans h1,h2⟩
def Ao{e:aj}{k:Kd}{l:List O}(h:de A e b k l):gO A.get 1 (Z l) (U ⟨b,0,Y⟩)=.ok l:=by
 obtain⟨c,h1,h2⟩:=h;unfold gO;simp only[nf];cases hn:aL (Z l) 0 with
 |true=>
  have:=eQ.1 (dZ hn);subst this;rfl
 |false=>
  have hg:=oP _ _ _ _ rfl λ j hj=>by rw[dO];exact h2 j hj
  simp only[ba,h1,hg]
variable {o:Nat}
def c7{e t:aj}{d:TypeDesc}{k:Kd}{l:List O}{v:O}(hu:tb.aB t=U d)(ha:cW d=af)(h:de A e b k l)(hv:l[o]?=U v):
 ax tb A.get t (.pointer (U ⟨b,o,Y⟩))=.ok v:=by
 obtain⟨c,h1,h2⟩:=h;have ho:=(bg.1 hv).1;have hc:=h2 o ho;rw[hv]at hc;unfold ax;simp only[h1,hu,ha,ba,hc]
def df{e t:aj}{k:Kd}{l:List O}{v:O}(hs:aY tb t=.ok 1)(h:de A e b k l)(ho:o<Z l)(hv:v.cells.toList=[v])(h1c:bI v=aa):
 ∃A',bX tb A t (.pointer (U ⟨b,o,Y⟩)) v=.ok A'/\de A' e b k (l.set o v)/\A'.next=A.next/\∀x,x≠b->A'.get x=A.get x:=by
 obtain⟨c,h1,h2⟩:=h;have hc:c.get o=U l[o]:=by rw[h2 o ho,aV ho]
 have hst:nW (AU k) 0 [v] o c=.ok (c.set o v):=by
  unfold nW;have hb:(bI v&&au 0 o)=aa:=by rw[h1c];simp
  rw[hb,aI,hc];rfl
 refine⟨A.set b (.cells e k 0 (c.set o v)),?_,⟨_,by rw[cr,aC rfl],λ i hi=>?_⟩,cE _ _ _,λ x hx=>by rw[cr,aq hx]⟩
 .unfold bX;simp only[hs,R.aT,hv];unfold kQ;simp only[h1,hst,R.aT];rfl
 .rw[dI]at hi;rw[T.cq,pR];by_cases hio:i=o
  .subst hio;rw[aC rfl,aC rfl,aC hi]
  .rw[aq hio,aq (λ x=>hio x.symm),h2 i hi]
def eY(A:Mem)(e:aj)(b:Nat)(l:List O)(x:O):Prop:=
 (x=.slice Y 0 0/\l=[])\/∃k c,x=.slice (U ⟨b,0,Y⟩) (Z l) c/\b<A.next/\de A e b k l/\(c=2*Z l\/(c=cu (Z l) 1/\(k=.row\/k=.mark)))
def eY.same{e:aj}{l:List O}{x:O}(h:eY A e b l x)(hn:A.next<=A'.next)(hg:b<A.next->A'.get b=A.get b):eY A' e b l x:=by
 rcases h with h|⟨k,c,h1,h2,h3,h4⟩
 .exact .inl h
 .exact .inr ⟨k,c,h1,dc h2 hn,h3.same (hg h2),h4⟩
def eY.len{e t t':aj}{l:List O}{x:O}(h:eY A e b l x)(hu:tb.aB t=U (.slice t')):cQ tb .len [t] [x]=.ok (.int .i64 (Z l:Nat)):=by
 rcases h with⟨rfl,rfl⟩|⟨k,c,rfl,-⟩<;>exact jY hu
variable {kd:cY}
def eY.idx{e t t':aj}{i:Nat}{l:List O}{x:O}(h:eY A e b l x)(hu:tb.aB t=U (.slice t'))(hs:aY tb t'=.ok 1)(hi:i<Z l):
 dQ tb t x (.int kd (i:Int))=.ok (.pointer (U ⟨b,i,Y⟩)):=by
 rcases h with⟨rfl,rfl⟩|⟨k,c,rfl,-⟩
 .simp at hi
 .rw[JI hu hs hi,dO]
def eY.load{e t:aj}{d:TypeDesc}{l:List O}{x v:O}(h:eY A e b l x)(hu:tb.aB t=U d)(ha:cW d=af)(hv:l[o]?=U v):
 ax tb A.get t (.pointer (U ⟨b,o,Y⟩))=.ok v:=by
 rcases h with⟨rfl,rfl⟩|⟨k,c,rfl,h2,h3,-⟩
 .simp at hv
 .exact c7 hu ha h3 hv
def eY.cells{e:aj}{l:List O}{x:O}(h:eY A e b l x):x.cells.toList=[x]:=by
 rcases h with⟨rfl,rfl⟩|⟨k,c,rfl,-⟩<;>rfl
def eY.one{e:aj}{l:List O}{x:O}(h:eY A e b l x):bI x=aa:=by
 rcases h with⟨rfl,rfl⟩|⟨k,c,rfl,-⟩<;>rfl
def sj(l:List UInt8):(ag l).cells.toList=[ag l]:=rfl
def sd(k:cY)(n:Int):(Value.int k n).cells.toList=[.int k n]:=rfl
def yQ(a:Option Addr)(n c:Nat):(Value.slice a n c).cells.toList=[.slice a n c]:=rfl
def aX(l:List O):(Value.agg ⟨l⟩).cells.toList=l:=rfl
def Wo{a b:Bool}:iu .neq (U .bool) (.bool a) (.bool b)=.ok (.bool (a !=b)):=by cases a<;>cases b<;>rfl
def tL(f:Fn)(a b:Array O):(Value.func f a b).cells.toList=[.func f a b]:=rfl
def builtin_append(A:Mem)(st xt:aj)(s x:O):tD tb A .append [st,xt] [s,x]=dm tb A st xt s x:=rfl
variable {b2:Nat}
def eY.append{st xt e:aj}{i:TypeInfo}{z v:O}{l:List O}{x:O}(h:eY A e b l x)(hst:tb.aB st=U (.slice e))(hxt:tb.aB xt=U (.slice e))(hz:eR tb e=.ok (1,[z]))(hi:tb.ty.get e=U i)(hib:0<i.bytes)(hib':i.bytes<=65536)
 (hl:Z l<16777216)(hb2:A.get b2=U (ae e [v]))(h1c:bI v=aa):
 ∃x' A',dm tb A st xt x (.slice (U ⟨b2,0,Y⟩) 1 2)=.ok (x',A')/\eY A' e A.next (l++[v]) x'/\A'.next=A.next+1/\∀y,y≠b->y<A.next->A'.get y=A.get y:=by
 have he1:(1:Nat)<65536:=by omega
 have hnew:ib A.get 1 1 (.slice (U ⟨b2,0,Y⟩) 1 2)=.ok [v]:=Ao (og hb2);have hlim:(au (Z l+1) 16777216&&au i.bytes 65536&&aM 0 i.bytes&&aM 0 1&&aM 1 65536)=aa:=by
  have a1:au (Z l+1) 16777216=aa:=mJ (by omega);have a2:=mJ hib';have a3:aM 0 i.bytes=aa:=by rw[bT];exact hib
  rw[a1,a2,a3];rfl
 have fin:∀(k':Kd) (A0:Mem),A0.next=A.next->(∀y,y≠b->A0.get y=A.get y)->(k'=.row\/k'=.mark)->
  eY (A0.alloc (.cells e k' 0 (T.bP .e 0 (l++[v])))) e A.next (l++[v]) (.slice (U ⟨A.next,0,Y⟩) (Z l+1) (cu (Z l+1) 1))/\(A0.alloc (.cells e k' 0 (T.bP .e 0 (l++[v])))).next=A.next+1/\∀y,y≠b->y<A.next->(A0.alloc (.cells e k' 0 (T.bP .e 0 (l++[v])))).get y=A.get y:=by
  intro k' A0 hn hg hk';refine⟨.inr ⟨k',_,by rw[aU];rfl,by rw[aA];omega,og ?_,.inr ⟨by rw[aU];rfl,hk'⟩⟩,by rw[aA,hn],λ y hy hlt=>?_⟩
  .rw[<-hn];exact cR _ _
  .rw[c9 (by omega),hg y hy]
 rcases h with⟨rfl,rfl⟩|⟨k,c,rfl,h2,h3,h4⟩
 .refine⟨.slice (U ⟨A.next,0,Y⟩) 1 (cu 1 1),A.alloc (.cells e .row 0 (T.bP .e 0 [v])),?_,?_⟩
  .unfold dm gx;have hble:au (0+1) (bH 0)=af:=rfl;have hx:dH 0=aa:=rfl;have hel:gO A.get 1 0 Y=.ok []:=rfl;simp only[hst,hxt,jx,ba,hz,R.aT,fu,hnew,hble,hi];simp only[dL,dO]at hlim;simp only[dO,hlim,aI,hel,R.aT,hx,lX]
  .exact fin .row A rfl (λ _ _=>rfl) (.inl rfl)
 .obtain⟨cs,hb',hcs⟩:=h3;have hel:=Ao ⟨cs,hb',hcs⟩;rcases h4 with rfl|⟨rfl,hk⟩
  .have hx:dH (2*Z l)=aa:=by show aL (2*Z l % 2) 0=aa;rw[Ej];rfl
   have hcn:bH (2*Z l)=Z l:=by unfold bH;rw[hx,aI];show 2*Z l/2=Z l;omega
   have hble:au (Z l+1) (bH (2*Z l))=af:=by
    rw[hcn];cases hq:au (Z l+1) (Z l)with
    |false=>rfl
    |true=>have:=fQ hq;omega
   refine⟨_,A.alloc (.cells e .row 0 (T.bP .e 0 (l++[v]))),?_,fin .row A rfl (λ _ _=>rfl) (.inl rfl)⟩;unfold dm gx;simp only[hst,hxt,jx,ba,hz,R.aT,fu,hnew,hble,hi,hlim,aI,hel,hx]
  .have hble:au (Z l+1) (bH (cu (Z l) 1))=af:=by
    rw[gB he1];cases hq:au (Z l+1) (Z l)with
    |false=>rfl
    |true=>have:=fQ hq;omega
   have hx:dH (cu (Z l) 1)=af:=iK _ _;have he:aL (gM (cu (Z l) 1)) 1=aa:=by rw[lj he1];rfl
   have hfz:(au 0 (0+Z l*1)&&(aL e e&&aM 0 9223372036854775808))=aa:=by
    have h0:aM 0 9223372036854775808=aa:=by rw[bT];omega
    rw[h0];simp
   refine⟨_,(A.set b .dead).alloc (.cells e k 0 (T.bP .e 0 (l++[v]))),?_,fin k (A.set b .dead) (cE _ _ _) (λ y hy=>by rw[cr,aq hy]) hk⟩;unfold dm gx;simp only[hst,hxt,jx,ba,hz,R.aT,fu,hnew,hble,hi,hlim,aI,hel,hx,he,Eb,List.all_nil,h1c,sY,hb',hfz];rcases hk with rfl|rfl<;>rfl
def NB(tb:aO)(ops:List Oper)(fl:List (Nat×Nat)):Bool:=
 match uH tb ops with
 |.ok l=>decide (l=fl)
 |_=>af
def bY{id:Nat}{ops:Array Oper}{s:St}(fl:List (Nat×Nat))(h:NB tb ops.toList fl=aa):exec tb (n+1) (.region id ops aa) s=(dW tb (exec tb n) ops.toList fl ops.toList 0 [] [] [] s).bind λ(e,s)=>match e with
 |.nrm=>.ok (.nrm,s)
 |_=>.no 312:=by
 have h':uH tb ops.toList=.ok fl:=by
  unfold NB at h;split at h
  .rename_i l hl;rw[hl,of_decide_eq_true h]
  .cases h
 show((uH tb ops.toList).bind λ fl=>(dW tb (exec tb n) ops.toList fl ops.toList 0 [] [] [] s).bind λ(e,s)=>_)=_;rw[h'];rfl
section
variable {ops l:List Oper}{fl:List (Nat×Nat)}{dst:Option Tmp}{op:Op}{ty:aj}{pos:String}{after:Array Edge}{i:Nat}{mems:List (Nat×Mem)}{recs:List Rec}{mks:List (Nat×Nat)}{s:St}
def qd7:dW tb ih ops fl [] i mems recs mks s=.ok (.nrm,s):=rfl
def Gh : dW tb ih ops fl ({ dst, op, type := ty, pos, after, guard := Y } :: l) i mems recs mks s = match cls tb op with
        | .L => bB tb ih { dst, op, type := ty, pos, after, guard := Y } { s with m := iy ((mks.filter λ x => eA x.1 i fl).map (·.2)) s.m } λ s' =>
          (kh s.m.get ((mks.filter λ x => eA x.1 i fl).map (·.2)) s'.m).bind λ A =>
          bif (recs.filter λ x => eA x.i i fl).all (jA tb A.get) then dW tb ih ops fl l (i + 1) ((i, s.m) :: mems) recs mks { s' with m := A } else .no 310
        | .Rd => (eB tb s.t s.m.get op).bind λ v =>
          bif (mems.filter λ m => eA i m.1 fl).all (λ m => jA tb m.2.get ⟨i, s.t, op, v⟩) then bS s dst v (dW tb ih ops fl l (i + 1) mems (⟨i, s.t, op, v⟩ :: recs) mks) else .no 311
        | .Al => bB tb ih { dst, op, type := ty, pos, after, guard := Y } s λ s' => dW tb ih ops fl l (i + 1) (rS s.m.next (s'.m.get s.m.next) mems) recs ((i, s.m.next) :: mks) s'
        | .P => bB tb ih { dst, op, type := ty, pos, after, guard := Y } s (dW tb ih ops fl l (i + 1) mems recs mks) := rfl
def qd5(h:cls tb op=.P):dW tb ih ops fl ({dst,op,type:=ty,pos,after,guard:=Y}::l) i mems recs mks s=bB tb ih {dst,op,type:=ty,pos,after,guard:=Y} s (dW tb ih ops fl l (i+1) mems recs mks):=by
 rw[Gh,h]
def qd3(h:cls tb op=.Al):dW tb ih ops fl ({dst,op,type:=ty,pos,after,guard:=Y}::l) i mems recs mks s=bB tb ih {dst,op,type:=ty,pos,after,guard:=Y} s λ s'=>dW tb ih ops fl l (i+1) (rS s.m.next (s'.m.get s.m.next) mems) recs ((i,s.m.next)::mks) s':=by
 rw[Gh,h]
def mY{α:Type}(p:Nat->Bool):List (Nat×α)->List (Nat×α)
 | []=>[]
 |x::l=>bif p x.1 then x::mY p l else mY p l
def qg3{α:Type}(p:Nat->Bool):mY p ([]:List (Nat×α))=[]:=rfl
def qg5{α:Type}{p:Nat->Bool}{j:Nat}{a:α}{l:List (Nat×α)}(h:p j=aa):mY p ((j,a)::l)=(j,a)::mY p l:=by simp[mY,h]
def qg4{α:Type}{p:Nat->Bool}{j:Nat}{a:α}{l:List (Nat×α)}(h:p j=af):mY p ((j,a)::l)=mY p l:=by simp[mY,h]
def Gs{α:Type}(p:Nat->Bool)(l:List (Nat×α)):(l.filter λ x=>p x.1)=mY p l:=by
 induction l with
 |nil=>rfl
 |cons x l ih=>
  unfold mY;cases h:p x.1<;>simp[h,ih]
def qo(p:Nat->Bool):List Rec->List Rec
 | []=>[]
 |x::l=>bif p x.i then x::qo p l else qo p l
def qg6(p:Nat->Bool):qo p []=[]:=rfl
def qg8{p:Nat->Bool}{j:Nat}{o:Op}{v:O}{l:List Rec}(h:p j=aa):qo p (⟨j,t,o,v⟩::l)=⟨j,t,o,v⟩::qo p l:=by simp[qo,h]
def qg7{p:Nat->Bool}{j:Nat}{o:Op}{v:O}{l:List Rec}(h:p j=af):qo p (⟨j,t,o,v⟩::l)=qo p l:=by simp[qo,h]
def S3(p:Nat->Bool)(l:List Rec):(l.filter λ x=>p x.i)=qo p l:=by
 induction l with
 |nil=>rfl
 |cons x l ih=>
  unfold qo;cases h:p x.i<;>simp[h,ih]
def xD(tb:aO)(x:Rec):List (Nat×Mem)->Bool
 | []=>aa
 |m::l=>jA tb m.2.get x&&xD tb x l
def qdA(x:Rec):xD tb x []=aa:=rfl
def qdz(x:Rec)(j:Nat)(A:Mem)(l:List (Nat×Mem)):xD tb x ((j,A)::l)=(jA tb A.get x&&xD tb x l):=rfl
def RK(x:Rec)(l:List (Nat×Mem)):(l.all λ m=>jA tb m.2.get x)=xD tb x l:=by
 induction l with
 |nil=>rfl
 |cons m l ih=>simp[xD,ih]
def xE(tb:aO)(g:Nat->Option Ob):List Rec->Bool
 | []=>aa
 |m::l=>jA tb g m&&xE tb g l
def qdC(g:Nat->Option Ob):xE tb g []=aa:=rfl
def qdB(g:Nat->Option Ob)(x:Rec)(l:List Rec):xE tb g (x::l)=(jA tb g x&&xE tb g l):=rfl
def RM(g:Nat->Option Ob)(l:List Rec):(l.all (jA tb g))=xE tb g l:=by
 induction l with
 |nil=>rfl
 |cons m l ih=>simp[xE,ih]
def KA(x:R O)(v:O):Bool:=
 match x with
 |.ok v'=>cP 100 v' v
 |.no _=>af
def qdE(g:Nat->Option Ob)(j:Nat)(t:T O)(e:aj)(x:Tmp)(v:O):jA tb g ⟨j,t,.load e (.tmp x),v⟩=KA ((ev t (.tmp x)).bind λ x=>ax tb g e x) v:=rfl
def AX(b o n c:Nat):cP 100 (.slice (U ⟨b,o,Y⟩) n c) (.slice (U ⟨b,o,Y⟩) n c)=aa:=by simp[cP,tU,ri]
def tV(k:cY)(n:Nat)(h:iA k k=aa):cP 100 (.int k (n:Int)) (.int k (n:Int))=aa:=by
 have:ky (n:Int) (n:Int)=aa:=by rw[FI];simp
 simp[cP,h,this]
def qdD(v w:O):KA (.ok v) w=cP 100 v w:=rfl
def qd6(h:cls tb op=.Rd):dW tb ih ops fl ({dst,op,type:=ty,pos,after,guard:=Y}::l) i mems recs mks s=(eB tb s.t s.m.get op).bind λ v=>
 bif xD tb ⟨i,s.t,op,v⟩ (mY (λ j=>eA i j fl) mems)then bS s dst v (dW tb ih ops fl l (i+1) mems (⟨i,s.t,op,v⟩::recs) mks)else .no 311:=by
 rw[Gh,h];simp only[Gs (λ j=>eA i j fl) mems,RK]
def qd4(h:cls tb op=.L):dW tb ih ops fl ({dst,op,type:=ty,pos,after,guard:=Y}::l) i mems recs mks s=
 bB tb ih {dst,op,type:=ty,pos,after,guard:=Y} {s with m:=iy ((mY (λ j=>eA j i fl) mks).map (·.2)) s.m} λ s'=>
  (kh s.m.get ((mY (λ j=>eA j i fl) mks).map (·.2)) s'.m).bind λ A=>
  bif xE tb A.get (qo (λ j=>eA j i fl) recs)then dW tb ih ops fl l (i+1) ((i,s.m)::mems) recs mks {s' with m:=A}else .no 310:=by
 rw[Gh,h];simp only[Gs (λ j=>eA j i fl) mks,S3 (λ j=>eA j i fl) recs,RM]
def qec{j:Nat}{want:Bool}(h:jc ops {dst,op,type:=ty,pos,after,guard:=U (j,want)} s.t=.ok af):dW tb ih ops fl ({dst,op,type:=ty,pos,after,guard:=U (j,want)}::l) i mems recs mks s=bS s dst cL (dW tb ih ops fl l (i+1) mems recs mks):=by
 show((jc ops {dst,op,type:=ty,pos,after,guard:=U (j,want)} s.t).bind λ w=>bif w then _ else bS s dst cL (dW tb ih ops fl l (i+1) mems recs mks))=_;rw[h];rfl
def Gi{j : Nat}{want : Bool}(h : jc ops { dst, op, type := ty, pos, after, guard := U (j, want) } s.t = .ok aa) : dW tb ih ops fl ({ dst, op, type := ty, pos, after, guard := U (j, want) } :: l) i mems recs mks s = match cls tb op with
        | .L => bB tb ih { dst, op, type := ty, pos, after, guard := U (j, want) } { s with m := iy ((mks.filter λ x => eA x.1 i fl).map (·.2)) s.m } λ s' =>
          (kh s.m.get ((mks.filter λ x => eA x.1 i fl).map (·.2)) s'.m).bind λ A =>
          bif (recs.filter λ x => eA x.i i fl).all (jA tb A.get) then dW tb ih ops fl l (i + 1) ((i, s.m) :: mems) recs mks { s' with m := A } else .no 310
        | .Rd => (eB tb s.t s.m.get op).bind λ v =>
          bif (mems.filter λ m => eA i m.1 fl).all (λ m => jA tb m.2.get ⟨i, s.t, op, v⟩) then bS s dst v (dW tb ih ops fl l (i + 1) mems (⟨i, s.t, op, v⟩ :: recs) mks) else .no 311
        | .Al => bB tb ih { dst, op, type := ty, pos, after, guard := U (j, want) } s λ s' => dW tb ih ops fl l (i + 1) (rS s.m.next (s'.m.get s.m.next) mems) recs ((i, s.m.next) :: mks) s'
        | .P => bB tb ih { dst, op, type := ty, pos, after, guard := U (j, want) } s (dW tb ih ops fl l (i + 1) mems recs mks) := by
  show ((jc ops { dst, op, type := ty, pos, after, guard := U (j, want) } s.t).bind λ w => bif w then _ else _) = _
  rw [h]; rfl
section
variable {j:Nat}{want:Bool}(hw:jc ops {dst,op,type:=ty,pos,after,guard:=U (j,want)} s.t=.ok aa)
include hw
def qea(h:cls tb op=.P):dW tb ih ops fl ({dst,op,type:=ty,pos,after,guard:=U (j,want)}::l) i mems recs mks s=bB tb ih {dst,op,type:=ty,pos,after,guard:=U (j,want)} s (dW tb ih ops fl l (i+1) mems recs mks):=by
 rw[Gi hw,h]
def qd8(h:cls tb op=.Al):dW tb ih ops fl ({dst,op,type:=ty,pos,after,guard:=U (j,want)}::l) i mems recs mks s=bB tb ih {dst,op,type:=ty,pos,after,guard:=U (j,want)} s λ s'=>dW tb ih ops fl l (i+1) (rS s.m.next (s'.m.get s.m.next) mems) recs ((i,s.m.next)::mks) s':=by
 rw[Gi hw,h]
def qeb(h:cls tb op=.Rd):dW tb ih ops fl ({dst,op,type:=ty,pos,after,guard:=U (j,want)}::l) i mems recs mks s=(eB tb s.t s.m.get op).bind λ v=>
 bif xD tb ⟨i,s.t,op,v⟩ (mY (λ j=>eA i j fl) mems)then bS s dst v (dW tb ih ops fl l (i+1) mems (⟨i,s.t,op,v⟩::recs) mks)else .no 311:=by
 rw[Gi hw,h];simp only[Gs (λ j=>eA i j fl) mems,RK]
def qd9(h:cls tb op=.L):dW tb ih ops fl ({dst,op,type:=ty,pos,after,guard:=U (j,want)}::l) i mems recs mks s=
 bB tb ih {dst,op,type:=ty,pos,after,guard:=U (j,want)} {s with m:=iy ((mY (λ j=>eA j i fl) mks).map (·.2)) s.m} λ s'=>
  (kh s.m.get ((mY (λ j=>eA j i fl) mks).map (·.2)) s'.m).bind λ A=>
  bif xE tb A.get (qo (λ j=>eA j i fl) recs)then dW tb ih ops fl l (i+1) ((i,s.m)::mems) recs mks {s' with m:=A}else .no 310:=by
 rw[Gi hw,h];simp only[Gs (λ j=>eA j i fl) mks,S3 (λ j=>eA j i fl) recs,RM]
end
def AY(l:List UInt8):cP 100 (ag l) (ag l)=aa:=by
 show nt l l=aa;rw[pj];simp
def Vb(b:Nat)(o:Option Ob):rS b o []=[]:=by cases o<;>rfl
def U'(b:Nat)(o:Ob)(j:Nat)(A:Mem)(l:List (Nat×Mem)):rS b (U o) ((j,A)::l)=(j,A.set b o)::rS b (U o) l:=rfl
def Vu(g:Nat->Option Ob)(A:Mem):kh g [] A=.ok A:=rfl
def qds(t:T O)(g:Nat->Option Ob)(e:aj)(x:Tmp):eB tb t g (.load e (.tmp x))=(ev t (.tmp x)).bind λ x=>ax tb g e x:=rfl
end
end
section
variable {tb:aO}
def Jb(n:Nat)(f:bA)(ps:Array Tmp)(a b:aH)(s:St):exec tb (n+1) (.rangeFunc f ps a b) s=xC tb (exec tb n) f ps.toList a b 0 s:=rfl
def gR(t:T O)(n:Nat)(ps:List Tmp)(a b:aH)(d:Nat):eT:={state:=.ready,pending:=Y,fn:=0,tmps:=t,n:=n,params:=ps,assign:=a,body:=b,defers:=d}
variable {t:T O}{n:Nat}{A A':Mem}
def W.qn{f:bA}{ps:Array Tmp}{a b:aH}{K:Ex->St->Prop}{fid:FuncId}{first capt:List O}{v:O}{r:eT}
 (hf:ev t f=.ok (.func (.func fid) ⟨first⟩ ⟨capt⟩))
 (hc:az tb fid (first++[.func (.yield (A.next+1)) ⟨[]⟩ ⟨[]⟩]++capt) ((A.alloc .defd).alloc (.loop (gR t n ps.toList a b A.next))) v A')
 (hr:A'.get (A.next+1)=U (.loop r))(hst:r.state≠.busy)(hp:r.pending=Y)
 (k:K .nrm ⟨t,n,[A.next],A'.set (A.next+1) (.loop {r with state:=.exhausted}),Y⟩):W tb (.rangeFunc f ps a b) ⟨t,n,[],A,Y⟩ K:=by
 obtain⟨g,hg⟩:=hc;refine⟨_,_,⟨g+1,λ m=>?_⟩,k⟩;rw[show m+(g+1)=(m+g)+1 by omega,Jb];have h1:=hg (m+g) (by omega);unfold xC;simp only[hf,R.aT];have hn:=aA A .defd;rw[hn];have hcal:∀g':Nat->Option Ob,tK tb g' (.func (.func fid) ⟨first⟩ ⟨capt⟩) [.func (.yield (A.next+1)) ⟨[]⟩ ⟨[]⟩]=.ok (.fn fid (first++[.func (.yield (A.next+1)) ⟨[]⟩ ⟨[]⟩]++capt)):=λ _=>rfl
 rw[hcal,R.aT];unfold gR at h1;rw[h1,R.aT];simp only[hr,hp];cases hs:r.state with
 |busy=>exact aZ hs hst
 |_=>rfl
def xF{l:Nat}{args:List O}{r:eT}{Q:Mem->Prop}(hl:A.get l=U (.loop r))(ht:setArgs r.n r.params args r.tmps=.ok t)
 (h:W tb r.assign ⟨t,r.n,[],A,U l⟩ λ e s1=>e=.nrm/\∃r1,s1.m.get l=U (.loop r1)/\r1.state=.ready/\W tb r.body ⟨s1.t,s1.n,s1.d,s1.m.set l (.loop {r1 with state:=.busy}),s1.ro⟩ λ e s2=>e=.nrm/\s2.d=[]/\∃r2,s2.m.get l=U (.loop r2)/\Q (s2.m.set l (.loop {r2 with state:=.ready,pending:=Y}))):
 ∃A',(∃g,∀M,g<=M->cH tb (exec tb M) (.round l args) A=.ok (.val (.bool aa) A'))/\Q A':=by
 obtain⟨e,s1,⟨f1,h1⟩,rfl,r1,hr1,hst1,e2,s2,⟨f2,h2⟩,rfl,hd,r2,hr2,hQ⟩:=h;refine⟨_,⟨f1+f2,λ M hM=>?_⟩,hQ⟩;show vc (exec tb M) l args A=_;unfold vc;have e1:=h1 (M-f1);rw[wh (by omega)]at e1;have e2:=h2 (M-f2);rw[wh (by omega)]at e2;simp only[hl,ht,R.aT,e1,hr1,hst1,e2,hd,hr2]
end
section
variable {tb:aO}(ok:dP tb)
include ok in
def X8 {n:Nat} {f:FuncId} {args:List O} {v:O} {A A':Mem} (h:call tb n f args A=.ok (.val v A')) {fn:Func} {c:aH} (hf:tb.fn.get f=U fn) (hb:fn.body=U c) (args':Array O) (w:aG) {ι:a8} (hr:Rel ι A w)
 (ha:bn ι args args'.toList) (hfree:∀b,A.next<=b->ι b=Y) (hst:∀b l,live A b->ι b=U l->Still A b l):Calls tb.P f args' w λ e w'=>∃ι' v',e=.returned v'/\VR ι' v v'/\Leaves w w':=by
 intro cs;unfold call at h;simp only[hf,hb]at h;rcases Jv ok (CN ok n) hf hb h with⟨_,_,h1,_⟩|⟨v,A',h1,hle,hs⟩
 .cases h1
 .cases h1;obtain⟨ι',w',v',⟨fr0,st,hfn,hlv⟩,hv,hrel,hstp⟩:=hs ι w args' cs hr ha (λ b h1 _=>hfree b h1);refine⟨.returned v',w',fr0,⟨ι',v',rfl,hv,λ c hc=>?_,hstp.size,hstp.os,hstp.tape,hstp.output⟩,st,hfn,hlv⟩;by_cases hx:∃b l,live A b/\ι b=U l/\l.blk=c
  .obtain⟨b,l,h1,h2,rfl⟩:=hx;exact(hstp.kept b l h2 (hst b l h1 h2)).2
  .exact hstp.fr c hc λ b l h1 h2 h3=>hx ⟨b,l,h1,h2,h3⟩
end
section
variable {tb:aO}
theorem TE(m:Nat):∀(vs:List O) (i:Nat) (c:T O),(∀v∈vs,bI v=aa)->(∀j,j<Z vs->∃y,c.get (i+j)=U y)->nW m 0 vs i c=.ok (c.bP i vs)
 | [],_,_,_,_=>rfl
 |v::vs,i,c,h1,h2=>by
  unfold nW;have hb:(bI v&&au 0 i)=aa:=by rw[h1 v (cM ..)];simp
  obtain⟨y,hy⟩:=h2 0 (by simp);rw[dN]at hy;rw[hb,aI,hy];refine TE m vs (i+1) (c.set i v) (λ w hw=>h1 w (cU _ hw)) λ j hj=>?_
  rw[T.cq];by_cases e:i+1+j=i
  .omega
  .rw[aq e];obtain⟨y,hy⟩:=h2 (j+1) (by simp;omega);exact⟨y,by rw[<-hy];congr 1;omega⟩
variable {A:Mem}{b:Nat}{l:List O}
def ja{e t:aj}{k:Kd}{l':List O}(hs:aY tb t=.ok (Z l))(h:de A e b k l)(hl:Z l'=Z l)(h0:l≠ [])(h1:∀v∈l',bI v=aa):
 ∃A',bX tb A t (.pointer (U ⟨b,0,Y⟩)) (.agg ⟨l'⟩)=.ok A'/\de A' e b k l'/\A'.next=A.next/\∀x,x≠b->A'.get x=A.get x:=by
 obtain⟨c,h2,h3⟩:=h;have hst:nW (AU k) 0 l' 0 c=.ok (c.bP 0 l'):=TE _ l' 0 c h1 λ j hj=>by
  rw[dO,h3 j (by omega),aV (show j<Z l by omega)];exact⟨_,rfl⟩
 refine⟨A.set b (.cells e k 0 (c.bP 0 l')),?_,⟨_,by rw[cr,aC rfl],λ i hi=>?_⟩,cE _ _ _,λ x hx=>by rw[cr,aq hx]⟩
 .unfold bX;have hc:(Value.agg ⟨l'⟩).cells.toList=l':=rfl;simp only[hs,R.aT,hc];have hb:aL (Z l') (Z l)=aa:=by rw[hl];simp
  rw[hb,aI];cases l' with
  |nil=>cases l with
   |nil=>exact aZ rfl h0
   |cons _ _=>simp at hl
  |cons v vs=>
   unfold kQ;simp only[h2,hst,R.aT]
 .rw[T.oO,aC ⟨a6 _,by omega⟩,iV]
def bU{e t:aj}{k:Kd}{d:TypeDesc}(hu:tb.aB t=U d)(ha:cW d=aa)(hs:aY tb t=.ok (Z l))(h:de A e b k l):ax tb A.get t (.pointer (U ⟨b,0,Y⟩))=.ok (.agg ⟨l⟩):=by
 obtain⟨c,h1,h2⟩:=h;have hg:=oP _ _ _ _ rfl λ j hj=>by rw[dO];exact h2 j hj
 unfold ax;simp only[h1,hu,ha,aI,hs,R.aT,hg]
def sV(A:Mem)(e:aj)(l:List O):de (A.alloc (ae e l)) e A.next (.var (Z l)) l:=og (cR _ _)
variable {n:Nat}
theorem ic:∀{ls:List (List O)},(∀l∈ls,Z l=n)->Z ls.flatten=Z ls*n
 | [],_=>by simp
 |l::ls,h=>by
  rw[s9,aU,ic (λ x hx=>h x (cU _ hx)),h l (cM ..),cd,oZ,ta,ye]
theorem nz:∀{ls:List (List O)} {i j:Nat} {l:List O},(∀l∈ls,Z l=n)->ls[i]?=U l->j<n->ls.flatten[i*n+j]?=l[j]?
 | [],i,j,l,_,hi,_=>by simp at hi
 |l0::ls,0,j,l,h,hi,hj=>by
  simp only[dX,eM]at hi;subst hi;rw[s9,oB,dO,eG (by rw[h _ (cM ..)];exact hj)]
 |l0::ls,i+1,j,l,h,hi,hj=>by
  simp only[dU]at hi;have hl0:=h l0 (cM ..);rw[s9,ez (by rw[hl0,oZ];omega),hl0,show(i+1)*n+j-n=i*n+j by rw[oZ,ta];omega];exact nz (λ x hx=>h x (cU _ hx)) hi hj
def ai(A:Mem)(e:aj)(n b:Nat)(ls:List (List O))(x:O):Prop:=
 (x=.slice Y 0 0/\ls=[])\/∃k c,x=.slice (U ⟨b,0,Y⟩) (Z ls) c/\b<A.next/\de A e b k ls.flatten/\(∀l∈ls,Z l=n)/\(c=2*Z ls\/(c=cu (Z ls) n/\(k=.row\/k=.mark)))
def ai.nil(A:Mem)(e:aj)(n b:Nat):ai A e n b [] (.slice Y 0 0):=.inl ⟨rfl,rfl⟩
variable {A':Mem}{ls:List (List O)}
def ai.same{e:aj}{x:O}(h:ai A e n b ls x)(hn:A.next<=A'.next)(hg:b<A.next->A'.get b=A.get b):ai A' e n b ls x:=by
 rcases h with h|⟨k,c,h1,h2,h3,h4⟩
 .exact .inl h
 .exact .inr ⟨k,c,h1,dc h2 hn,h3.same (hg h2),h4⟩
def ai.len{e t t':aj}{x:O}(h:ai A e n b ls x)(hu:tb.aB t=U (.slice t')):cQ tb .len [t] [x]=.ok (.int .i64 (Z ls:Nat)):=by
 rcases h with⟨rfl,rfl⟩|⟨k,c,rfl,-⟩<;>exact jY hu
variable {i:Nat}{kd:cY}
def ai.idx{e t t':aj}{x:O}(h:ai A e n b ls x)(hu:tb.aB t=U (.slice t'))(hs:aY tb t'=.ok n)(hi:i<Z ls):
 dQ tb t x (.int kd (i:Int))=.ok (.pointer (U ⟨b,i*n,Y⟩)):=by
 rcases h with⟨rfl,rfl⟩|⟨k,c,rfl,-⟩
 .simp at hi
 .have hb:aM i (Z ls)=aa:=by rw[bT];exact hi
  have hn:iC (.int kd (i:Int))=.ok i:=rfl;unfold dQ;simp only[hn,hu,hb,aI,hs,R.aT,fi,dO]
variable {j:Nat}
def ai.load{e t:aj}{d:TypeDesc}{x v:O}(h:ai A e n b ls x)(hu:tb.aB t=U d)(ha:cW d=af)(hi:ls[i]?=U l)(hj:l[j]?=U v)(hjn:j<n):
 ax tb A.get t (.pointer (U ⟨b,i*n+j,Y⟩))=.ok v:=by
 rcases h with⟨rfl,rfl⟩|⟨k,c,rfl,h2,h3,h4,-⟩
 .simp at hi
 .exact c7 hu ha h3 (by rw[nz h4 hi hjn];exact hj)
def ai.bU{e t:aj}{d:TypeDesc}{x:O}(h:ai A e n b ls x)(hu:tb.aB t=U d)(ha:cW d=aa)(hs:aY tb t=.ok n)(hi:ls[i]?=U l):
 ax tb A.get t (.pointer (U ⟨b,i*n,Y⟩))=.ok (.agg ⟨l⟩):=by
 rcases h with⟨rfl,rfl⟩|⟨k,c,rfl,h2,⟨cs,h5,h6⟩,h4,-⟩
 .simp at hi
 .have hl:=h4 l (fh hi);have hlen:=ic h4;have hil:=(bg.1 hi).1;have hg:cs.iX n (i*n)=U l:=oP _ _ _ _ hl λ j hj=>by
   rw[h6 (i*n+j) (by
    rw[hlen];have:=BJ n (show i+1<=Z ls from hil);rw[oZ,ta]at this;omega),nz h4 hi hj]
  unfold ax;simp only[h5,hu,ha,aI,hs,R.aT,hg]
variable {m:Nat}
def tN{e:aj}{k:Kd}(h:de A e b k l)(hl:Z l=m*n):gO A.get n m (U ⟨b,0,Y⟩)=.ok l:=by
 obtain⟨c,h1,h2⟩:=h;unfold gO;simp only[];cases hn:aL (m*n) 0 with
 |true=>
  have:=eQ.1 (by rw[hl];exact dZ hn);subst this;rfl
 |false=>
  have hg:=oP _ _ _ _ hl λ j hj=>by rw[dO];exact h2 j (by omega)
  simp only[ba,h1,hg]
variable {b2:Nat}
def ai.append{st xt e:aj}{i:TypeInfo}{z:List O}{x:O}(h:ai A e n b ls x)(hst:tb.aB st=U (.slice e))(hxt:tb.aB xt=U (.slice e))(hz:eR tb e=.ok (n,z))(hi:tb.ty.get e=U i)(hib:0<i.bytes)(hib':i.bytes<=65536)
 (hn0:0<n)(hn1:n<65536)(hls:Z ls<16777216)(hb2:A.get b2=U (ae e l))(hl:Z l=n)(h1c:∀v∈l,bI v=aa):
 ∃x' A',dm tb A st xt x (.slice (U ⟨b2,0,Y⟩) 1 2)=.ok (x',A')/\ai A' e n A.next (ls++[l]) x'/\A'.next=A.next+1/\∀y,(y=b->x=.slice Y 0 0)->y<A.next->A'.get y=A.get y:=by
 have hnew:ib A.get n 1 (.slice (U ⟨b2,0,Y⟩) 1 2)=.ok l:=tN (og hb2) (by rw[ta];exact hl);have hlim:(au (Z ls+1) 16777216&&au i.bytes 65536&&aM 0 i.bytes&&aM 0 n&&aM n 65536)=aa:=by
  have a1:au (Z ls+1) 16777216=aa:=mJ (by omega);have a2:=mJ hib';have a3:aM 0 i.bytes=aa:=by rw[bT];exact hib
  have a4:aM 0 n=aa:=by rw[bT];exact hn0
  have a5:aM n 65536=aa:=by rw[bT];exact hn1
  rw[a1,a2,a3,a4,a5];rfl
 have hfl:(ls++[l]).flatten=ls.flatten++l:=by simp
 have fin:∀(k':Kd) (A0:Mem),A0.next=A.next->(∀y,y≠b->A0.get y=A.get y)->(k'=.row\/k'=.mark)->(∀l∈ls,Z l=n)->
  ai (A0.alloc (.cells e k' 0 (T.bP .e 0 (ls.flatten++l)))) e n A.next (ls++[l]) (.slice (U ⟨A.next,0,Y⟩) (Z ls+1) (cu (Z ls+1) n))/\(A0.alloc (.cells e k' 0 (T.bP .e 0 (ls.flatten++l)))).next=A.next+1/\∀y,y≠b->y<A.next->(A0.alloc (.cells e k' 0 (T.bP .e 0 (ls.flatten++l)))).get y=A.get y:=by
  intro k' A0 hn hg hk' hall;refine⟨.inr ⟨k',_,by rw[aU];rfl,by rw[aA];omega,og ?_,λ y hy=>?_,.inr ⟨by rw[aU];rfl,hk'⟩⟩,by rw[aA,hn],λ y hy hlt=>?_⟩
  .rw[hfl,<-hn];exact cR _ _
  .rcases mI.1 hy with h|h
   .exact hall y h
   .rw[ee.1 h];exact hl
  .rw[c9 (by omega),hg y hy]
 rcases h with⟨rfl,rfl⟩|⟨k,c,rfl,h2,h3,h4,h5⟩
 .refine⟨.slice (U ⟨A.next,0,Y⟩) 1 (cu 1 n),A.alloc (.cells e .row 0 (T.bP .e 0 ([]++l))),?_,?_⟩
  .unfold dm gx;have hble:au (0+1) (bH 0)=af:=rfl;have hx:dH 0=aa:=rfl;have hel:gO A.get n 0 Y=.ok []:=rfl;simp only[hst,hxt,jx,ba,hz,R.aT,fu,hnew,hble,hi];simp only[dL,dO]at hlim;simp only[dO,hlim,aI,hel,R.aT,hx]
  .obtain⟨f1,f2,-⟩:=fin .row A rfl (λ _ _=>rfl) (.inl rfl) (λ l h=>by cases h);exact⟨f1,f2,λ y _ hy=>c9 (by omega)⟩
 .have hel:=tN h3 (ic h4);obtain⟨cs,hb',hcs⟩:=h3;rcases h5 with rfl|⟨rfl,hk⟩
  .have hx:dH (2*Z ls)=aa:=by show aL (2*Z ls % 2) 0=aa;rw[Ej];rfl
   have hcn:bH (2*Z ls)=Z ls:=by unfold bH;rw[hx,aI];show 2*Z ls/2=Z ls;omega
   have hble:au (Z ls+1) (bH (2*Z ls))=af:=by
    rw[hcn];cases hq:au (Z ls+1) (Z ls)with
    |false=>rfl
    |true=>have:=fQ hq;omega
   refine⟨_,A.alloc (.cells e .row 0 (T.bP .e 0 (ls.flatten++l))),?_,(fin .row A rfl (λ _ _=>rfl) (.inl rfl) h4).1,(fin .row A rfl (λ _ _=>rfl) (.inl rfl) h4).2.1,λ y hy=>(fin .row A rfl (λ _ _=>rfl) (.inl rfl) h4).2.2 y (λ e=>by cases hy e)⟩;unfold dm gx;simp only[hst,hxt,jx,ba,hz,R.aT,fu,hnew,hble,hi,hlim,aI,hel,hx]
  .have hble:au (Z ls+1) (bH (cu (Z ls) n))=af:=by
    rw[gB hn1];cases hq:au (Z ls+1) (Z ls)with
    |false=>rfl
    |true=>have:=fQ hq;omega
   have hx:dH (cu (Z ls) n)=af:=iK _ _;have he:aL (gM (cu (Z ls) n)) n=aa:=by rw[lj hn1];simp
   have hall:=ov.2 h1c;have hfz:(au 0 (0+Z ls*n)&&(aL e e&&aM 0 9223372036854775808))=aa:=by
    have h0:aM 0 9223372036854775808=aa:=by rw[bT];omega
    rw[h0];simp
   refine⟨_,(A.set b .dead).alloc (.cells e k 0 (T.bP .e 0 (ls.flatten++l))),?_,(fin k (A.set b .dead) (cE _ _ _) (λ y hy=>by rw[cr,aq hy]) hk h4).1,(fin k (A.set b .dead) (cE _ _ _) (λ y hy=>by rw[cr,aq hy]) hk h4).2.1,λ y hy=>(fin k (A.set b .dead) (cE _ _ _) (λ y hy=>by rw[cr,aq hy]) hk h4).2.2 y (λ e=>by cases hy e)⟩;unfold dm gx;simp only[hst,hxt,jx,ba,hz,R.aT,fu,hnew,hble,hi,hlim,aI,hel,hx,he,hall,sY,hb',hfz];rcases hk with rfl|rfl<;>rfl
end
section
variable {tb:aO}
def kU(A:Mem)(e:aj)(n b:Nat)(ls:List (List O))(x:O):Prop:=
 (x=.slice Y 0 0/\ls=[])\/∃k c ex,x=.slice (U ⟨b,0,Y⟩) (Z ls) c/\b<A.next/\de A e b k (ls.flatten++ex)/\(∀l∈ls,Z l=n)/\gh c n=aa/\Z ls<=bH c
variable {A:Mem}{n b:Nat}{ls:List (List O)}
def ai.DJ{e:aj}{x:O}(hn:n<65536)(h:ai A e n b ls x):kU A e n b ls x:=by
 rcases h with h|⟨k,c,h1,h2,h3,h4,h5⟩
 .exact .inl h
 .refine .inr ⟨k,c,[],h1,h2,by rw[kR];exact h3,h4,?_,?_⟩
  .rcases h5 with rfl|⟨rfl,_⟩
   .unfold gh;rw[wV];rfl
   .unfold gh;rw[iK,lj hn,ba];exact uj n
  .rcases h5 with rfl|⟨rfl,_⟩
   .rw[qb];exact aJ _
   .rw[gB hn];exact aJ _
variable {A':Mem}
def kU.same{e:aj}{x:O}(h:kU A e n b ls x)(hn:A.next<=A'.next)(hg:b<A.next->A'.get b=A.get b):kU A' e n b ls x:=by
 rcases h with h|⟨k,c,ex,h1,h2,h3,h4⟩
 .exact .inl h
 .exact .inr ⟨k,c,ex,h1,dc h2 hn,h3.same (hg h2),h4⟩
def kU.len{e t t':aj}{x:O}(h:kU A e n b ls x)(hu:tb.aB t=U (.slice t')):cQ tb .len [t] [x]=.ok (.int .i64 (Z ls:Nat)):=by
 rcases h with⟨rfl,rfl⟩|⟨k,c,ex,rfl,-⟩<;>exact jY hu
variable {i:Nat}{kd:cY}
def kU.idx{e t t':aj}{x:O}(h:kU A e n b ls x)(hu:tb.aB t=U (.slice t'))(hs:aY tb t'=.ok n)(hi:i<Z ls):
 dQ tb t x (.int kd (i:Int))=.ok (.pointer (U ⟨b,i*n,Y⟩)):=by
 rcases h with⟨rfl,rfl⟩|⟨k,c,ex,rfl,-⟩
 .simp at hi
 .have hb:aM i (Z ls)=aa:=by rw[bT];exact hi
  have hn:iC (.int kd (i:Int))=.ok i:=rfl;unfold dQ;simp only[hn,hu,hb,aI,hs,R.aT,fi,dO]
variable {j:Nat}
def CV(h:∀l∈ls,Z l=n)(hi:i<Z ls)(hj:j<n):i*n+j<Z ls.flatten:=by
 rw[ic h];have:=BJ n (show i+1<=Z ls from hi);rw[oZ,ta]at this;omega
variable {l:List O}
def kU.bU{e t:aj}{d:TypeDesc}{x:O}(h:kU A e n b ls x)(hu:tb.aB t=U d)(ha:cW d=aa)(hs:aY tb t=.ok n)(hi:ls[i]?=U l):
 ax tb A.get t (.pointer (U ⟨b,i*n,Y⟩))=.ok (.agg ⟨l⟩):=by
 rcases h with⟨rfl,rfl⟩|⟨k,c,ex,rfl,h2,⟨cs,h5,h6⟩,h4,-⟩
 .simp at hi
 .have hl:=h4 l (fh hi);have hil:=(bg.1 hi).1;have hg:cs.iX n (i*n)=U l:=oP _ _ _ _ hl λ j hj=>by
   have hlt:=CV h4 hil hj;rw[h6 (i*n+j) (by rw[aU];omega),eG hlt,nz h4 hi hj]
  unfold ax;simp only[h5,hu,ha,aI,hs,R.aT,hg]
def kU.self{e:aj}{x:O}(h:kU A e n b ls x)(d:Nat):cP (d+1) x x=aa:=by
 rcases h with⟨rfl,-⟩|⟨k,c,ex,rfl,-⟩
 .rfl
 .exact AX _ _ _ _
variable {m:Nat}
def kU.cut{e t t':aj}{x:O}(h:kU A e n b ls x)(hu:tb.aB t=U (.slice t'))(hs:aY tb t'=.ok n)(hm:m<=Z ls):
 ∃x',eD tb t x Y (U (.int .i64 m)) Y=.ok x'/\kU A e n b (ls.take m) x':=by
 rcases h with⟨rfl,rfl⟩|⟨k,c,ex,rfl,h2,h3,h4,h5,h6⟩
 .have hm0:m=0:=by simpa using hm
  subst hm0;refine⟨.slice Y 0 0,?_,.inl ⟨rfl,rfl⟩⟩;have e1:bound (U (.int .i64 (0:Nat))) 0 (bH 0)=.ok 0:=qQ (a6 _);unfold eD;simp only[hu,e1,R.aT,tw,hs]
 .have hl:(ls.take m).length=m:=by rw[db];omega
  have e1:bound (U (.int .i64 m)) (Z ls) (bH c)=.ok m:=qQ (by omega);have hall:∀l∈ls.take m,Z l=n:=λ l hl=>h4 l (wa hl)
  have hfl:ls.flatten++ex=(ls.take m).flatten++((ls.drop m).flatten++ex):=by
   rw[<-jD,<-Bx,s_]
  rw[hfl]at h3;cases hx:dH c&&aL (bH c) 0 with
  |true=>
   have hc1:=dZ (Bool.and_eq_true_iff.1 hx).2;have hm0:m=0:=by omega
   subst hm0;refine⟨.slice (U ⟨b,0,Y⟩) 0 0,?_,.inr ⟨k,0,_,by rw[hl],h2,h3,hall,rfl,by rw[hl];exact a6 _⟩⟩;unfold eD;simp only[hu,e1,R.aT,tw,hs,hx,aI,iV]
  |false=>
   refine⟨.slice (U ⟨b,0,Y⟩) m (jt c 0),?_,.inr ⟨k,_,_,by rw[hl],h2,h3,hall,?_,by rw[uG];omega⟩⟩
   .unfold eD;simp only[hu,e1,R.aT,tw,hs,hx,ba,h5,aI,fi,oB,dN,iV]
   .unfold gh;unfold gh at h5;rw[yP];cases hcx:dH c with
    |true=>rfl
    |false=>
     rw[hcx,ba]at h5;have he:=dZ h5;have hlt:gM c<65536:=iU _ (by omega);unfold jt;rw[hcx,ba,ba,lj hlt,he];exact uj n
variable {y:O}
def ai.tu{st xt e:aj}{xd:TypeDesc}{i:TypeInfo}{z:List O}{nl:List (List O)}{x:O}(h:ai A e n b ls x)(hst:tb.aB st=U (.slice e))(hxt:tb.aB xt=U xd)(hxd:jx xd=af)(hz:eR tb e=.ok (n,z))(hi:tb.ty.get e=U i)(hib:0<i.bytes)(hib':i.bytes<=65536)
 (hn0:0<n)(hn1:n<65536)(hls:Z ls+m<=16777216)(hy:fu y=.ok m)(hnew:ib A.get n m y=.ok nl.flatten)(hm:Z nl=m)(hl:∀l∈nl,Z l=n)(h1c:∀v∈nl.flatten,bI v=aa):
 ∃x' A' b',dm tb A st xt x y=.ok (x',A')/\ai A' e n b' (ls++nl) x'/\A.next<=A'.next/\(b'=b\/A.next<=b')/\∀y,(y=b->x=.slice Y 0 0)->y<A.next->A'.get y=A.get y:=by
 subst hm;by_cases h0:Z nl=0
 .have hnil:=eQ.1 h0;subst hnil;simp only[dL,Hm]at hy hnew;refine⟨x,A,b,?_,by rw[kR];exact h,aJ _,.inl rfl,λ _ _ _=>rfl⟩;rcases h with⟨rfl,rfl⟩|⟨k,c,rfl,h2,h3,h4,h5⟩
  .unfold dm gx;simp only[hst,hxt,hxd,ba,hz,R.aT,hy,hnew];rfl
  .have hc:Z ls<=bH c:=by
    rcases h5 with rfl|⟨rfl,_⟩
    .rw[qb];exact aJ _
    .rw[gB hn1];exact aJ _
   have hble:=mJ hc;have hst0:∀a,kQ A a []=.ok A:=λ _=>rfl
   unfold dm gx;simp only[hst,hxt,hxd,ba,hz,R.aT,hy,hnew,dN,hble,aI,hst0]
 have hlim:(au (Z ls+Z nl) 16777216&&au i.bytes 65536&&aM 0 i.bytes&&aM 0 n&&aM n 65536)=aa:=by
  have a1:=mJ (by omega);have a2:=mJ hib';have a3:aM 0 i.bytes=aa:=by rw[bT];exact hib
  have a4:aM 0 n=aa:=by rw[bT];exact hn0
  have a5:aM n 65536=aa:=by rw[bT];exact hn1
  rw[a1,a2,a3,a4,a5];rfl
 have hfl:(ls++nl).flatten=ls.flatten++nl.flatten:=by simp
 have hll:(ls++nl).length=Z ls+Z nl:=aU;have fin:∀(k':Kd) (A0:Mem),A0.next=A.next->(∀y,y≠b->A0.get y=A.get y)->(k'=.row\/k'=.mark)->(∀l∈ls,Z l=n)->
  ai (A0.alloc (.cells e k' 0 (T.bP .e 0 (ls.flatten++nl.flatten)))) e n A.next (ls++nl) (.slice (U ⟨A.next,0,Y⟩) (Z ls+Z nl) (cu (Z ls+Z nl) n))/\A.next<=(A0.alloc (.cells e k' 0 (T.bP .e 0 (ls.flatten++nl.flatten)))).next/\∀y,y≠b->y<A.next->(A0.alloc (.cells e k' 0 (T.bP .e 0 (ls.flatten++nl.flatten)))).get y=A.get y:=by
  intro k' A0 hn hg hk' hall;refine⟨.inr ⟨k',_,by rw[hll],by rw[aA];omega,og ?_,λ y hy=>?_,.inr ⟨by rw[hll],hk'⟩⟩,by rw[aA,hn];omega,λ y hy hlt=>?_⟩
  .rw[hfl,<-hn];exact cR _ _
  .rcases mI.1 hy with h|h
   .exact hall y h
   .exact hl y h
  .rw[c9 (by omega),hg y hy]
 rcases h with⟨rfl,rfl⟩|⟨k,c,rfl,h2,h3,h4,h5⟩
 .refine⟨.slice (U ⟨A.next,0,Y⟩) (0+Z nl) (cu (0+Z nl) n),A.alloc (.cells e .row 0 (T.bP .e 0 ([]++nl.flatten))),A.next,?_,?_⟩
  .unfold dm gx;have hble:au (0+Z nl) (bH 0)=af:=by
    cases hq:au (0+Z nl) (bH 0)with
    |false=>rfl
    |true=>
     have hq2:=fQ hq;have:bH 0=0:=rfl;omega
   have hx:dH 0=aa:=rfl;have hel:gO A.get n 0 Y=.ok []:=rfl;simp only[dL]at hlim;simp only[hst,hxt,hxd,ba,hz,R.aT,hy,hnew,hble,hi,hlim,aI,hel,hx]
  .obtain⟨f1,f2,-⟩:=fin .row A rfl (λ _ _=>rfl) (.inl rfl) (λ l h=>by cases h);exact⟨f1,f2,.inr (aJ _),λ y _ hy=>c9 (by omega)⟩
 .have hel:=tN h3 (ic h4);obtain⟨cs,hb',hcs⟩:=h3;rcases h5 with rfl|⟨rfl,hk⟩
  .have hx:dH (2*Z ls)=aa:=wV _;have hcn:bH (2*Z ls)=Z ls:=qb _;have hble:au (Z ls+Z nl) (bH (2*Z ls))=af:=by
    rw[hcn];cases hq:au (Z ls+Z nl) (Z ls)with
    |false=>rfl
    |true=>have:=fQ hq;omega
   obtain⟨f1,f2,f3⟩:=fin .row A rfl (λ _ _=>rfl) (.inl rfl) h4;refine⟨_,A.alloc (.cells e .row 0 (T.bP .e 0 (ls.flatten++nl.flatten))),A.next,?_,f1,f2,.inr (aJ _),λ y hy=>f3 y (λ e=>by cases hy e)⟩;unfold dm gx;simp only[hst,hxt,hxd,ba,hz,R.aT,hy,hnew,hble,hi,hlim,aI,hel,hx]
  .have hble:au (Z ls+Z nl) (bH (cu (Z ls) n))=af:=by
    rw[gB hn1];cases hq:au (Z ls+Z nl) (Z ls)with
    |false=>rfl
    |true=>have:=fQ hq;omega
   have hx:dH (cu (Z ls) n)=af:=iK _ _;have he:aL (gM (cu (Z ls) n)) n=aa:=by rw[lj hn1];simp
   have hall:=ov.2 h1c;have hfz:(au 0 (0+Z ls*n)&&(aL e e&&aM 0 9223372036854775808))=aa:=by
    have h0:aM 0 9223372036854775808=aa:=by rw[bT];omega
    rw[h0];simp
   obtain⟨f1,f2,f3⟩:=fin k (A.set b .dead) (cE _ _ _) (λ y hy=>by rw[cr,aq hy]) hk h4;refine⟨_,(A.set b .dead).alloc (.cells e k 0 (T.bP .e 0 (ls.flatten++nl.flatten))),A.next,?_,f1,f2,.inr (aJ _),λ y hy=>f3 y (λ e=>by cases hy e)⟩;unfold dm gx;simp only[hst,hxt,hxd,ba,hz,R.aT,hy,hnew,hble,hi,hlim,aI,hel,hx,he,hall,sY,hb',hfz];rcases hk with rfl|rfl<;>rfl
def Fz(l:List O):(l.map λ v=>[v]).flatten=l:=by
 induction l with
 |nil=>rfl
 |cons a l ih=>simp only[eU,s9,ih,List.singleton_append]
def eY.qip{e:aj}{x:O}(h:eY A e b l x):ai A e 1 b (l.map λ v=>[v]) x:=by
 rcases h with⟨h1,rfl⟩|⟨k,c,h1,h2,h3,h4⟩
 .exact .inl ⟨h1,rfl⟩
 .refine .inr ⟨k,c,by rw[aR];exact h1,h2,by rw[Fz];exact h3,λ l hl=>?_,by rw[aR];exact h4⟩;obtain⟨v,-,rfl⟩:=dA.1 hl;rfl
def ai.qiq{e:aj}{x:O}(h:ai A e 1 b (l.map λ v=>[v]) x):eY A e b l x:=by
 rcases h with⟨h1,h2⟩|⟨k,c,h1,h2,h3,_,h4⟩
 .exact .inl ⟨h1,mH.1 h2⟩
 .rw[aR]at h1 h4;rw[Fz]at h3;exact .inr ⟨k,c,h1,h2,h3,h4⟩
def eY.tu{st xt e:aj}{xd:TypeDesc}{i:TypeInfo}{z:List O}{nl:List O}{x:O}(h:eY A e b l x)(hst:tb.aB st=U (.slice e))(hxt:tb.aB xt=U xd)(hxd:jx xd=af)(hz:eR tb e=.ok (1,z))(hi:tb.ty.get e=U i)(hib:0<i.bytes)(hib':i.bytes<=65536)
 (hls:Z l+m<=16777216)(hy:fu y=.ok m)(hnew:ib A.get 1 m y=.ok nl)(hm:Z nl=m)(h1c:∀v∈nl,bI v=aa):
 ∃x' A' b',dm tb A st xt x y=.ok (x',A')/\eY A' e b' (l++nl) x'/\A.next<=A'.next/\(b'=b\/A.next<=b')/\∀y,(y=b->x=.slice Y 0 0)->y<A.next->A'.get y=A.get y:=by
 obtain⟨x',A',b',h1,h2,h3⟩:=h.qip.tu hst hxt hxd hz hi hib hib' Nat.zero_lt_one (by omega) (by rw[aR];exact hls) hy (by rw[Fz];exact hnew) (by rw[aR];exact hm) (λ l hl=>by
  obtain⟨v,-,rfl⟩:=dA.1 hl;rfl) (by rw[Fz];exact h1c)
 rw[<-fY]at h2;exact⟨x',A',b',h1,h2.qiq,h3⟩
variable {dst:Option Tmp}{pos:String}{after:Array Edge}
def eW{ih:aH->St->R (Ex×St)}{ty:aj}{g:Option (Nat×Bool)}{s:St}{k:St->R (Ex×St)}(t:aj)(x y:bA)(r:aj)(h:tv (tb.aB t)=af):bB tb ih {dst,op:=.binOp .eql t x y r,type:=ty,pos,after,guard:=g} s k=
 (ev s.t x).bind λ a=>(ev s.t y).bind λ b=>(gP tb s.m.get .eql t x y a b).bind λ v=>bS s dst v k:=by
 rw[uY (hc:=by unfold cls;simp only[h,ba]) (hi:=rfl)];simp only[eB,R.ec]
def Dh{ih:aH->St->R (Ex×St)}{ty:aj}{g:Option (Nat×Bool)}{s:St}{k:St->R (Ex×St)}(t:aj)(x y:bA)(r:aj)(h:tv (tb.aB t)=af):bB tb ih {dst,op:=.binOp .neq t x y r,type:=ty,pos,after,guard:=g} s k=
 (ev s.t x).bind λ a=>(ev s.t y).bind λ b=>(gP tb s.m.get .neq t x y a b).bind λ v=>bS s dst v k:=by
 rw[uY (hc:=by unfold cls;simp only[h,ba]) (hi:=rfl)];simp only[eB,R.ec]
def fieldsOf:Option TypeDesc->List (Bool×aj×Nat)
 |some (.struct fs)=>fs.toList.map λ f=>(f.name== "_",f.type,f.offset)
 |_=>[]
def qaX:Option TypeDesc->Bool
 |some (.struct _)=>aa
 |_=>af
def Av(tb:aO)(eq:aj->O->O->R Bool)(xs ys:List O):List (Bool×aj×Nat)->R Bool
 | []=>.ok aa
 |(n,t,o)::fs=>bif n then .no 85 else
  (nS tb t xs o).bind λ a=>(nS tb t ys o).bind λ b=>(eq t a b).bind λ
   |true=>Av tb eq xs ys fs
   |false=>.ok af
theorem On(eq:TypeId->Value->Value->R Bool)(xs ys:List Value):∀fs:List Field,xf tb eq xs ys fs=Av tb eq xs ys (fs.map λ f=>(f.name== "_",f.type,f.offset))
 | []=>rfl
 |f::fs=>by
  have ih:=On eq xs ys fs;show xf tb eq xs ys (f::fs)=Av tb eq xs ys ((f.name== "_",f.type,f.offset)::fs.map λ f=>(f.name== "_",f.type,f.offset));unfold xf Av;cases f.name== "_" with
  |true=>rfl
  |false=>
   simp only[ba];cases nS tb f.type xs f.offset with
   |no _=>rfl
   |ok a=>
    cases nS tb f.type ys f.offset with
    |no _=>rfl
    |ok b=>
     simp only[R.aT];cases eq f.type a b with
     |no _=>rfl
     |ok r=>cases r with
      |true=>exact ih
      |false=>rfl
def Y_{g:Nat->Option Ob}{t:aj}{sh:List (Bool×aj×Nat)}(h1:qaX (tb.aB t)=aa)(h2:fieldsOf (tb.aB t)=sh)(h3:tb.P.stoodInHeld t=af)(d:Nat)(xs ys:Array O):
 jV tb g (d+1) t (.agg xs) (.agg ys)=Av tb (jV tb g d) xs.toList ys.toList sh:=by
 subst h2;unfold jV;cases hu:tb.aB t with
 |none=>rw[hu]at h1;cases h1
 |some ds=>
  cases ds with
  |struct fs=>
   simp only[h3,ba];rw[On];rfl
  |_=>rw[hu]at h1;cases h1
variable {k':cY}
def Y7{g:Nat->Option Ob}{t:aj}{k:cY}(h:tb.aB t=U (.int k))(d:Nat)(a b:Int):jV tb g (d+1) t (.int k' a) (.int k' b)=.ok (decide (a=b)):=by
 unfold jV;have hk:iA k' k'=aa:=by cases k'<;>rfl
 simp only[h,hk,aI,xj];rfl
def Y8{g:Nat->Option Ob}{t:aj}(h:tb.aB t=U .string)(d:Nat)(a b:List UInt8):jV tb g (d+1) t (ag a) (ag b)=.ok (decide (a=b)):=by
 unfold jV;simp only[h,ag,pj];congr 1;rw[qu];simp
def Y6{g:Nat->Option Ob}{t:aj}(h:tb.aB t=U .bool)(d:Nat)(a b:Bool):jV tb g (d+1) t (.bool a) (.bool b)=.ok (decide (a=b)):=by
 unfold jV;simp only[h];cases a<;>cases b<;>rfl
variable {o:Nat}
def F_{t:aj}{cs:List O}{d:TypeDesc}{v:O}(h:tb.aB t=U d)(ha:cW d=af)(hv:cs[o]?=U v):nS tb t cs o=.ok v:=by
 unfold nS;simp only[h,ha,ba,hv]
end
section
variable {tb:aO}(ok:dP tb)
def u7:O->Bool
 |.int _ _=>aa
 |.string _=>aa
 |.bool _=>aa
 |_=>af
variable {ι:a8}
def qdj{v:O}(h:u7 v=aa):VR ι v v:=by
 cases v<;>first|exact .int _ _|exact .string _|exact .bool _|cases h
def PD:List O->Nat->T O->T O
 | [],_,c=>c
 |v::l,i,c=>PD l (i+1) (bif u7 v then c.set i v else c)
def qjR:Obj->Ob
 |.cells cs t fr=>.cells t .row (2*(9223372036854775808+cs.size+fr.2+1)) (PD cs.toList 0 .e)
 |_=>.dead
def qq(w:aG)(ex:List (Option Loc))(b:Nat):Option Loc:=
 if b<w.heap.size then match w.heap[b]? with
  |some (.cells cs _ _)=>U ⟨b,0,cs.size⟩
  |_=>Y
 else(ex[b-w.heap.size]?).join
variable {b:Nat}{cs:Array O}
def Uv{w:aG}{ex:List (Option Loc)}{t:aj}{fr:Nat×Nat}(h:w.heap[b]?=U (.cells cs t fr)):qq w ex b=U ⟨b,0,cs.size⟩:=by
 unfold qq;rw[aC (fU.1 h).1,h]
end
section
variable {tb:aO}(ok:dP tb)
def y7(g:Nat->O->Option O):List O->Nat->T O->T O
 | [],_,c=>c
 |v::l,i,c=>y7 g l (i+1) (match g i v with|some u=>c.set i u|none=>c)
theorem JO(g:Nat->O->Option O):∀(l:List O) (i:Nat) (c:T O) (j:Nat),(y7 g l i c).get j=if i<=j/\j<i+Z l/\(l[j-i]?.bind (g j)).isSome=aa then l[j-i]?.bind (g j)else c.get j
 | [],i,c,j=>by
  unfold y7;rw[aq (λ h=>by
   have:=h.2.1;simp only[dL]at this;omega)]
 |v::l,i,c,j=>by
  unfold y7;rw[JO g l (i+1)];by_cases hj:j=i
  .subst hj;rw[aq (by omega),gZ,dX,wj];cases hp:g j v with
   |some u=>
    rw[aC ⟨aJ _,by simp,rfl⟩];rw[T.cq,aC rfl]
   |none=>rw[aq (λ h=>by simp at h)]
  .have hc:(match g i v with|some u=>c.set i u|none=>c:T O).get j=c.get j:=by
    cases g i v with
    |some u=>
     rw[T.cq,aq hj]
    |none=>rfl
   rw[hc];by_cases hij:i+1<=j
   .have e:(v::l)[j-i]?=l[j-(i+1)]?:=by
     rw[show j-i=(j-(i+1))+1 by omega,dU]
    rw[e];simp only[cd];by_cases hx:j<i+1+Z l/\(l[j-(i+1)]?.bind (g j)).isSome=aa
    .rw[aC ⟨hij,hx.1,hx.2⟩,aC ⟨by omega,by omega,hx.2⟩]
    .rw[aq (λ h=>hx h.2),aq (λ h=>hx ⟨by omega,h.2.2⟩)]
   .rw[aq (λ h=>hij h.1),aq (λ h=>by omega)]
variable {l:List O}{j:Nat}
def qbg{g:Nat->O->Option O}{u:O}(h:(y7 g l 0 .e).get j=U u):∃v,l[j]?=U v/\g j v=U u:=by
 rw[JO]at h;split at h
 .rw[iV,Option.bind_eq_some_iff]at h;exact h
 .rw[T.pC]at h;cases h
def PC{g:Nat->O->Option O}{v u:O}(h:l[j]?=U v)(hp:g j v=U u):(y7 g l 0 .e).get j=U u:=by
 rw[JO,iV,h,wj,hp,aC ⟨a6 _,by have:=(bg.1 h).1;omega,rfl⟩]
def LB(g:Nat->O->Option O):Obj->Ob
 |.cells cs t fr=>.cells t .row (2*(9223372036854775808+cs.size+fr.2+1)) (y7 g cs.toList 0 .e)
 |_=>.dead
def pO(w:aG)(n:Nat)(N:Nat->Nat->O->Option O):Mem:=
 ⟨T.ofList ((jE w.heap.size).map λ b=>match w.heap[b]? with|some o=>LB (N b) o|none=>.dead),w.heap.size+n⟩
def Bm(w:aG)(n:Nat)(N:Nat->Nat->O->Option O)(b:Nat):(pO w n N).get b=(w.heap[b]?).map (LB (N b)):=by
 show(T.ofList _).get b=_;rw[T.Az,da];by_cases hb:b<w.heap.size
 .rw[zN hb,fZ,D6 hb];rfl
 .rw[lW (by simpa using hb),Array.getElem?_eq_none (by omega)];rfl
variable {b:Nat}
def GX{w:aG}{ex:List (Option Loc)}{N:Nat->Nat->O->Option O}{o:Ob}{l:Loc}(hg:(pO w (Z ex) N).get b=U o)(hl:qq w ex b=U l):∃cs t fr,w.heap[b]?=U (.cells cs t fr)/\o=LB (N b) (.cells cs t fr)/\l=⟨b,0,cs.size⟩:=by
 rw[Bm]at hg;cases hb:w.heap[b]? with
 |none=>rw[hb]at hg;cases hg
 |some o'=>
  rw[hb]at hg;have hlt:=(fU.1 hb).1;unfold qq at hl;rw[aC hlt,hb]at hl;cases o' with
  |cells cs t fr=>
   cases hl;exact⟨cs,t,fr,rfl,(je hg).symm,rfl⟩
  |_=>cases hl
def Hr(w:aG)(ex:List (Option Loc))(N:Nat->Nat->O->Option O):Prop:=∀(b i:Nat) (v u:O),N b i v=U u->VR (qq w ex) u v
def qi9(w:aG)(ex:List (Option Loc))(hex:∀l,U l∈ex->l.blk<w.heap.size){N:Nat->Nat->O->Option O}(hN:Hr w ex N):Rel (qq w ex) (pO w (Z ex) N) w:=by
 refine⟨λ b hb=>?_,λ b o l hg _ hl=>?_,λ b l hl=>?_,λ b b' l l' hb hb' hl hl' he=>?_,λ b t k c hb=>?_⟩
 .have hb':w.heap.size+Z ex<=b:=hb;rw[Bm,Array.getElem?_eq_none (by omega)];rfl
 .obtain⟨cs,t,fr,h1,rfl,rfl⟩:=GX hg hl;refine⟨_,h1,cs,fr,rfl,rfl,λ i u hu=>?_,?_⟩
  .obtain⟨v,h2,h3⟩:=qbg hu;rw[fW]at h2;exact⟨v,h2,hN _ _ _ _ h3⟩
  .show fr.2<=0+(2*(9223372036854775808+cs.size+fr.2+1));omega
 .unfold qq at hl;split at hl
  .rename_i hlt;split at hl
   .cases hl;exact hlt
   .cases hl
  .cases hx:ex[b-w.heap.size]? with
   |none=>rw[hx]at hl;cases hl
   |some ol=>
    rw[hx]at hl;cases ol with
    |none=>cases hl
    |some l0=>
     cases hl;exact hex _ (fh hx)
 .obtain⟨o,hg,_⟩:=hb;obtain⟨o',hg',_⟩:=hb';obtain⟨_,_,_,_,_,rfl⟩:=GX hg hl;obtain⟨_,_,_,_,_,rfl⟩:=GX hg' hl';exact he
 .rw[Bm]at hb;cases h:w.heap[b]? with
  |none=>rw[h]at hb;cases hb
  |some o=>
   rw[h]at hb;have h2:=je hb;cases o with
   |cells cs t' fr=>
    have h3:2*(9223372036854775808+cs.size+fr.2+1)=GB k:=by injection h2
    unfold GB at h3;omega
   |_=>cases h2
include ok in
def Vh {w:aG} (ex:List (Option Loc)) (hex:∀l,U l∈ex->l.blk<w.heap.size) {N:Nat->Nat->O->Option O} (hN:Hr w ex N) {f:FuncId} {fn:Func} {c:aH} (hf:tb.fn.get f=U fn) (hb:fn.body=U c) {args:List O} {args':Array O} (ha:bn (qq w ex) args args'.toList)
 (hlaw:∃A',xR tb f args (pO w (Z ex) N) (.bool aa) A'):Calls tb.P f args' w λ e w'=>e=.returned (.bool aa)/\Leaves w w':=by
 intro cs;obtain⟨A',n,hc⟩:=hlaw;obtain⟨e,w',fr,⟨ι',v',he,hv,hl⟩,st⟩:=X8 ok hc hf hb args' w (qi9 w ex hex hN) ha (λ b hb=>by
  have hb':w.heap.size+Z ex<=b:=hb;unfold qq;rw[aq (by omega),lW (by omega)];rfl) (λ b l hb hl=>by
  obtain⟨o,hg,_⟩:=hb;obtain⟨cs,t,fr,h1,rfl,rfl⟩:=GX hg hl;refine⟨?_,t,_,_,hg,by omega,?_⟩
  .show b<w.heap.size+Z ex;have:=(fU.1 h1).1;omega
  .show cs.size<2*(9223372036854775808+cs.size+fr.2+1);omega) cs
 cases hv;exact⟨e,w',fr,⟨he,hl⟩,st⟩
def uI:O:=.complex .f32 0 0
open Classical in
def jI (w:World) (n:Nat) (v:Value):Option Value:=
 if u7 v=true then some v else match v with
 |.slice none len cap=>if len=0/\cap=0 then some (.slice none 0 0)else none
 |.slice (some x) len cap=>
  if len=0/\cap=0 then some uI
  else if VR (qq w []) (.slice (some ⟨x.block,x.off,none⟩) len (cu len n)) (.slice (some x) len cap)then some (.slice (some ⟨x.block,x.off,none⟩) len (cu len n))
  else none
 |_=>none
variable {n:Nat}
def Mh{w:aG}{v u:O}(h:jI w n v=U u):VR (qq w []) u v:=by
 unfold jI at h;split at h
 .rename_i hp;cases h;exact qdj hp
 .split at h
  .split at h
   .rename_i hh;obtain⟨rfl,rfl⟩:=hh;cases h;exact .slN
   .cases h
  .split at h
   .rename_i hh;obtain⟨rfl,rfl⟩:=hh;cases h;exact .emp _
   .split at h
    .rename_i hh;cases h;exact hh
    .cases h
  .cases h
def HR{w:aG}{v:O}(h:u7 v=aa):jI w n v=U v:=by
 unfold jI;rw[aC h]
def Mj{w:aG}:jI w n (.slice Y 0 0)=U (.slice Y 0 0):=by
 unfold jI;rw[aq (by decide)];simp
def Mi{w:aG}{x:Addr}:jI w n (.slice (U x) 0 0)=U uI:=by
 unfold jI;rw[aq (by simp[u7])];simp
def qB(w:aG)(n:Nat)(v:O)(len:Nat)(cs:List O):Prop:=
 (v=.slice Y 0 0/\len=0)\/(∃x,v=.slice (U x) 0 0/\len=0)\/
 ∃x cap,v=.slice (U x) len cap/\0<cap/\len<=cap/\cap<2^63/\(∀i,i<cap*n->∃u,w.cell? (x.add i)=U u)/\Z cs=len*n/\∀(i:Nat) (c:O),cs[i]?=U c->w.cell? (x.add i)=U c
def U5(A:Mem)(N:Nat->Nat->O->Option O)(n len:Nat)(cs:List O)(x:O):Prop:=
 (x=.slice Y 0 0/\len=0)\/(x=uI/\len=0)\/
 ∃q off,x=.slice (U ⟨q,off,Y⟩) len (cu len n)/\q<A.next/\(len*n=0\/∃t fz c,A.get q=U (.cells t .row fz c)/\∀(i:Nat) (v u:O),i<len*n->cs[i]?=U v->N q (off+i) v=U u->c.get (off+i)=U u)
variable {i:Nat}
def EW{w:aG}{x:Addr}{v:O}(hs:x.spot=Y)(h:w.cell? (x.add i)=U v):∃cs t fr,w.heap[x.block]?=U (.cells cs t fr)/\cs[x.off+i]?=U v:=by
 obtain⟨xb,xo,xs⟩:=x;simp only at hs;subst hs;rw[om]at h;unfold World.cell? at h;split at h
 .rename_i cs t fr hw;have hw':=hw;simp only[yl,ed,bO]at h;exact⟨cs,t,fr,hw',h⟩
 .cases h
def Nf{w:aG}{x:Addr}{v:O}(h:w.cell? (x.add 0)=U v):x.spot=Y:=by
 have h0:x.add 0=x:=rfl;rw[h0]at h;unfold World.cell? at h;split at h
 .split at h
  .cases h
  .rename_i hn;cases hs:x.spot with
   |none=>rfl
   |some y=>rw[hs]at hn;simp at hn
 .cases h
def qdf{w:aG}{v:O}{len:Nat}{cs:List O}{N:Nat->Nat->O->Option O}(hn0:0<n)(hn:n<65536)(h:qB w n v len cs):
 ∃x,jI w n v=U x/\U5 (pO w 0 N) N n len cs x:=by
 rcases h with⟨rfl,rfl⟩|⟨x,rfl,rfl⟩|⟨x,cap,rfl,hc0,hlc,hcap,hall,hcl,hcell⟩
 .exact⟨_,Mj,.inl ⟨rfl,rfl⟩⟩
 .exact⟨_,Mi,.inr (.inl ⟨rfl,rfl⟩)⟩
 .have hpos:=Nat.mul_pos hc0 hn0;obtain⟨u0,hu0⟩:=hall 0 hpos;have hsp:=Nf hu0;obtain⟨xb,xo,xs⟩:=x;simp only at hsp;subst hsp;have h1:bH (cu len n)=len:=gB hn;have h2:gM (cu len n)=n:=lj hn;have hnp:¬u7 (.slice (U ⟨xb,xo,Y⟩) len cap)=aa:=by simp[u7]
  obtain⟨u,hu⟩:=hall (cap*n-1) (by omega);obtain⟨cs',t,fr,hw,hu2⟩:=EW rfl hu;have hsz:=(fU.1 hu2).1;have hblk:=(fU.1 hw).1;have hreal:VR (qq w []) (.slice (U ⟨xb,xo,Y⟩) len (cu len n)) (.slice (U ⟨xb,xo,Y⟩) len cap):=by
   refine VR.slX (Uv hw) (iK _ _) (by rw[h1];exact hlc) ?_ (λ _=>by simp) hcap (by rw[h1];exact aJ _);rw[h2];have e:xo+(cap*n-1)<cs'.size:=hsz;show xo+cap*n<=cs'.size;omega
  refine⟨.slice (U ⟨xb,xo,Y⟩) len (cu len n),?_,.inr (.inr ⟨xb,xo,rfl,hblk,?_⟩)⟩
  .unfold jI;rw[aq hnp];simp only[aq (show¬(len=0/\cap=0) by omega),aC hreal]
  .by_cases h0:len*n=0
   .exact .inl h0
   .right;refine⟨t,_,_,by rw[Bm,hw];rfl,λ i v u hi hv hu=>PC ?_ hu⟩;obtain⟨cs2,t2,fr2,hw2,hv2⟩:=EW rfl (hcell i v hv);rw[hw]at hw2;cases hw2;rw[fW];exact hv2
end
section
variable {tb:aO}(ok:dP tb){ι:a8}
structure zE where
 f:FuncId
 fn:Func
 c0:aH
 id1:Nat
 o1:Oper
 od:Oper
 c2:aH
 x:Tmp
 g:FuncId
 gf:Func
 id3:Nat
 orc:Oper
 t:Tmp
 c3:aH
structure G_ (tb:aO) (D:zE):Prop where
 hf:tb.fn.get D.f=U D.fn
 hb:D.fn.body=U (.seq D.c0 (.seq (.region D.id1 #[D.o1,D.od] af) D.c2))
 hod:D.od.op=.defer {callee:=.value (.tmp D.x),args:= #[],argTypes:= #[]}
 go1:D.o1.guard=Y
 god:D.od.guard=Y
 dod:D.od.dst=Y
 hg:tb.fn.get D.g=U D.gf
 hgb:D.gf.body=U (.seq (.region D.id3 #[D.orc] af) D.c3)
 horc:D.orc.op=.call {callee:=.builtin .recover,args:= #[],argTypes:= #[]}
 dorc:D.orc.dst=U D.t
 gorc:D.orc.guard=Y
 ht:D.t<D.gf.ntmps
 hres:D.gf.results= #[]
 hng:(D.gf.name== "runtime.NumGoroutine")=false
def Ds(tb:aO)(D:zE)(n:Nat)(cap:List O)(rv:O)(A:Mem):R Mem:=
 bif au (Z cap) D.gf.ntmps then
  (exec tb n D.c3 {t:=(T.bP .e 0 cap).set D.t rv,n:=D.gf.ntmps,d:=[],m:=A,ro:=Y}).bind λ(e,s)=>
  match e with
  |.dR _=>.no 710
  |.exit _=>.no 711
  |_=>gU s.d s.m
 else .no 712
def yT(tb:aO)(D:zE)(n:Nat):List O->Mem->R (O×Mem):=λ args A=>
 bif au (Z args) D.fn.ntmps then
  (exec tb n D.c0 {t:=T.bP .e 0 args,n:=D.fn.ntmps,d:=[],m:=A,ro:=Y}).bind λ(e0,s0)=>
  match e0 with
  |.nrm=>(bB tb (exec tb n) D.o1 s0 λ s=>.ok (.nrm,s)).bind λ(e1,s1)=>
   match e1,s1.d,s1.t.get D.x with
   |.nrm,[],U (.func (.func g') first cap)=>bif aL g' D.g then
    (exec tb n D.c2 s1).bind λ(e2,s2)=>
    (match e2 with
     |.dR v=>match s2.d with
      | []=>R.ok (v,s2.m)
      |_=>.no 701
     |.exit _=>.no 702
     |_=>(gU s2.d s2.m).bind λ A1=>.ok (.nilIface,A1)).bind λ(rv,A1)=>
    (Ds tb D n (first.toList++cap.toList) rv A1).bind λ A2=>
    (eC tb s2.t A2.get D.fn.results.toList).bind λ vs=>.ok (oneOf vs,A2)
    else .no 703
   |_,_,_=>.no 704
  |_=>.no 705
 else .no 706
variable {fn:Func}
def NO{P:cI}{f:FuncId}{c:aH}(hf:P.funcs[f]?=U fn)(hb:fn.body=U c)(args:Array O)(kd:CallKind):
 Frame.enter P f args kd=(Frame.enter P f args kd).atR ⟨args++tZ (fn.ntmps-args.size) undef,[]⟩ [.code c]:=by
 simp[Frame.enter,Frame.atR,hf,hb]
section steps
variable {P:cI}{b:Frame}{a:Act}{k:List Item}{cs:List Frame}{w w':aG}{ops:Array Oper}{i:Nat}{rest:List Nat}{o:Oper}
def qhP{d:Deferred}(hr0:b.roundOf=Y)(ho:ops[i]?=U o)(hw:Region.wanted o (yielded ops a.tmps)=aa)(hr:(execOp a.eval o).run P w=.ok (.defer d) w')(hd:o.dst=Y):
 step P (lone (b.atR a (.inRegion ops (i::rest)::k)) cs w)=.next (lone (b.atR {a with defers:=d::a.defers} (.inRegion ops rest::k)) cs w'):=by
 have hg:=stepGR_op (P:=P) (b:=b) (k:=k) (cs:=cs) (w:=w) (rest:=rest) ho hw;rw[hr0,Oper.semAt_none]at hg;have hfin:({b.atR a (.inRegion ops (i::rest)::k)with defers:=d::a.defers}:Frame).finish undef=b.atR {a with defers:=d::a.defers} (.inRegion ops rest::k):=by
  have:=Frame.finish_atR b {a with defers:=d::a.defers} ops i rest k undef;rw[ho]at this;simp only[wj,hd,Act.put]at this;exact this
 refine step_lone_go ?_;rw[hg];simp[stepG.apply,hr];exact hfin
def qhR(hr0:b.roundOf=Y)(ho:ops[i]?=U o)(hw:Region.wanted o (yielded ops a.tmps)=aa)(hr:(execOp a.eval o).run P w=.ok .recover w')(ht:tryRecover (b.atR a (.inRegion ops (i::rest)::k)) cs=Y):
 step P (lone (b.atR a (.inRegion ops (i::rest)::k)) cs w)=.next (lone (b.atR (a.put o.dst .nilIface) (.inRegion ops rest::k)) cs w'):=by
 have hg:=stepGR_op (P:=P) (b:=b) (k:=k) (cs:=cs) (w:=w) (rest:=rest) ho hw;rw[hr0,Oper.semAt_none]at hg;have hfin:∀v,(b.atR a (.inRegion ops (i::rest)::k)).finish v=b.atR (a.put o.dst v) (.inRegion ops rest::k):=by
  intro v;rw[Frame.finish_atR,ho];rfl
 have hro:(b.atR a (.inRegion ops (i::rest)::k)).roundOf=Y:=hr0;refine step_lone_go ?_;rw[hg];simp[stepG.apply,hr,hro,ht,hfin]
def qhS{v:O}{cs':List Frame}(hr0:b.roundOf=Y)(ho:ops[i]?=U o)(hw:Region.wanted o (yielded ops a.tmps)=aa)(hr:(execOp a.eval o).run P w=.ok .recover w')(ht:tryRecover (b.atR a (.inRegion ops (i::rest)::k)) cs=U (v,cs')):
 step P (lone (b.atR a (.inRegion ops (i::rest)::k)) cs w)=.next (lone (b.atR (a.put o.dst v) (.inRegion ops rest::k)) cs' w'):=by
 have hg:=stepGR_op (P:=P) (b:=b) (k:=k) (cs:=cs) (w:=w) (rest:=rest) ho hw;rw[hr0,Oper.semAt_none]at hg;have hfin:∀v,(b.atR a (.inRegion ops (i::rest)::k)).finish v=b.atR (a.put o.dst v) (.inRegion ops rest::k):=by
  intro v;rw[Frame.finish_atR,ho];rfl
 have hro:(b.atR a (.inRegion ops (i::rest)::k)).roundOf=Y:=hr0;refine step_lone_go ?_;rw[hg];simp[stepG.apply,hr,hro,ht,hfin]
def qhW{fr:Frame}{d:Deferred}{ds:List Deferred}{g:FuncId}{args:Array O}(hd:fr.defers=d::ds)(hmode:fr.mode=.returning\/∃ch,fr.mode=.panicking ch)
 (ht:∃t c,d.target=.fn t c)(hr:(invoke d.target d.args).run P w=.ok (.enter g args) w'):
 step P (lone fr cs w)=.next (lone (Frame.enter P g args .deferred) ({fr with defers:=ds}::cs) w'):=by
 obtain⟨t,c,ht⟩:=ht;obtain⟨tg,qjX⟩:=d;simp only at ht hr;subst ht;refine step_lone_go ?_;rcases hmode with hm|⟨ch,hm⟩
 .simp[stepG,unwind,hm,hd,callDeferred,hr]
 .simp[stepG,unwind,hm,hd,callDeferred,hr]
def qhX{fr c:Frame}{v:O}(hm:fr.mode=.returning)(hd:fr.defers=[])(hk:fr.kind=.deferred)(hf:P.funcs[fr.fn]?=U fn)(hr:(results fn fr.tmps).run P w=.ok v w):
 (c.mode=.returning->step P (lone fr (c::cs) w)=.next (lone c cs w))/\
 (∀x,c.mode=.panicking [{v:=x,recovered:=aa}]->step P (lone fr (c::cs) w)=.next (lone {c with mode:=.returning} cs w)):=by
 refine⟨λ hc=>step_lone_go ?_,λ x hc=>step_lone_go ?_⟩
 .simp[stepG,unwind,hm,hd,hf,hr,doReturn,hk,hc]
 .simp[stepG,unwind,hm,hd,hf,hr,doReturn,hk,hc]
end steps
def Mr{P:cI}{b:Frame}{a:Act}{e:Ex}{k:List Item}{cs:List Frame}{w:aG}(hb:b.roundOf=Y)(he:e=.nrm\/e=.ret)(ha:oW e [] k):
 ∃todo,Steps P (lone (b.atR a k) cs w) (lone {b.atR ⟨a.tmps,a.defers⟩ todo with mode:=.returning} cs w):=by
 rcases he with rfl|rfl
 .cases (show k=[]from ha);exact⟨[],.one (stepR_end hb)⟩
 .obtain⟨k2,rfl⟩:=ha;exact⟨_,.one (stepR_ret hb)⟩
variable {D:zE}(hD:G_ tb D)
include ok hD in
def RH {n:Nat} {cap:List O} {rv:O} {A A2:Mem} (h:Ds tb D n cap rv A=.ok A2):
 A.next<=A2.next/\∀(ι:a8) (w:aG) (cap':Array O) (rv':O) (fr:Frame) (cs:List Frame),Rel ι A w->bn ι cap cap'.toList->VR ι rv rv'->ew ι A A2->
  (fr.mode=.returning/\rv'=.nilIface\/fr.mode=.panicking [{v:=rv',recovered:=af}])->
  ∃ι' w',Steps tb.P (lone (Frame.enter tb.P D.g cap' .deferred) (fr::cs) w) (lone {fr with mode:=.returning} cs w')/\Rel ι' A2 w'/\bZ ι A w ι' A2 w':=by
 have hg':=ok.fn _ _ hD.hg;unfold Ds at h;cases hnb:au (Z cap) D.gf.ntmps with
 |false=>rw[hnb]at h;cases h
 |true=>
 rw[hnb,aI]at h;have hn:=fQ hnb;obtain⟨⟨e,s1⟩,h1,h2⟩:=R.aF h;have he:(e=.nrm\/e=.ret)/\gU s1.d s1.m=.ok A2:=by
  cases e with
  |dR _=>cases h2
  |exit _=>cases h2
  |nrm=>exact⟨.inl rfl,h2⟩
  |ret=>exact⟨.inr rfl,h2⟩
 obtain⟨he,h4⟩:=he;have hnx:=DI h4;rcases CN ok n _ _ _ _ h1 with⟨v,rfl,_⟩|⟨hle,hc⟩
 .rcases he with he|he<;>cases he
 refine⟨by rw[hnx];exact hle,λ ι w cap' rv' fr cs hr ha hrv hfree hmode=>?_⟩;have hfree':ew ι A s1.m:=λ b h1 h2=>hfree b h1 (by rw[hnx];exact h2)
 have hent:=NO hg' hD.hgb cap' .deferred;have hro:(Frame.enter tb.P D.g cap' .deferred).roundOf=Y:=rfl;have hkd:(Frame.enter tb.P D.g cap' .deferred).kind=.deferred:=rfl;have hdf:(Frame.enter tb.P D.g cap' .deferred).defers=[]:=rfl;have hfn:(Frame.enter tb.P D.g cap' .deferred).fn=D.g:=rfl;generalize Frame.enter tb.P D.g cap' .deferred=b at hent hro hkd hdf hfn;let a0:Act:=⟨cap'++tZ (D.gf.ntmps-cap'.size) undef,[]⟩;have hops:(#[D.orc]:Array Oper)[0]?=U D.orc:=rfl
 have hwant:∀y,Region.wanted D.orc y=aa:=λ y=>by unfold Region.wanted;rw[hD.gorc]
 have hrun:(execOp a0.eval D.orc).run tb.P w=.ok .recover w:=by
  simp only[execOp,hD.horc,resolve,aP,aW,aQ,invoke,builtin]
 have s0:Steps tb.P (lone b (fr::cs) w) (lone (b.atR a0 (.inRegion #[D.orc] [0]::[.code D.c3])) (fr::cs) w):=by
  rw[hent];refine .head stepR_seq (.head stepR_region ?_);exact .refl _ _
 obtain⟨fr1,s1',hfr1⟩:∃fr1,Steps tb.P (lone (b.atR a0 (.inRegion #[D.orc] [0]::[.code D.c3])) (fr::cs) w) (lone (b.atR (a0.put D.orc.dst rv') [.code D.c3]) (fr1::cs) w)/\
  (fr.mode=.returning/\fr1=fr\/fr1={fr with mode:=.panicking [{v:=rv',recovered:=aa}]}):=by
  rcases hmode with⟨hm,rfl⟩|hm
  .refine⟨fr,.head (qhR hro hops (hwant _) hrun ?_) (.one stepR_region_end),.inl ⟨hm,rfl⟩⟩;simp[tryRecover,Frame.atR,hkd,hm]
  .refine⟨_,.head (qhS hro hops (hwant _) hrun ?_) (.one stepR_region_end),.inr rfl⟩;simp[tryRecover,Frame.atR,hkd,hm]
 have hs0:SR ι {t:=(T.bP .e 0 cap).set D.t rv,n:=D.gf.ntmps,d:=[],m:=A,ro:=Y} b (a0.put D.orc.dst rv') w:=by
  refine⟨hr,?_,hro,?_⟩
  .rw[hD.dorc];exact(TR.args ha hn).set hD.ht hrv
  .rw[hD.dorc];exact hdf.symm
 obtain⟨ι1,w1,a1,k1,st1,ha1,hs1,hss1⟩:=hc ι b _ [] (fr1::cs) w hs0 hfree';obtain⟨todo,st2⟩:=Mr hro he ha1;obtain⟨w2,mA,hrel2,hst2⟩:=GH tb.P h4 hs1.dr hs1.rel;obtain⟨vr,hres,-⟩:=KC ok hrel2 hs1.tr (by rw[hD.hres];rfl);obtain⟨e1,e2⟩:=qhX (fr:={b.atR ⟨a1.tmps,b.defers⟩ todo with mode:=.returning}) rfl hdf hkd (by show tb.P.funcs[b.fn]?=_;rw[hfn];exact hg') hres;refine⟨ι1,w2,(((s0.trans s1').trans st1).trans st2).trans (mA.trans ?_),hrel2,hss1.fT.trans hst2⟩;rcases hfr1 with⟨hm,rfl⟩|rfl
 .have:({fr1 with mode:=.returning}:Frame)=fr1:=by rw[<-hm]
  rw[this];exact .one (e1 hm)
 .exact .one (e2 rv' rfl)
include ok hD in
def Nu (n:Nat):fP tb.P D.f (yT tb D n):=by
 intro args A v A' h;have hf':=ok.fn _ _ hD.hf;have hg':=ok.fn _ _ hD.hg;have hih:=CN ok n;unfold yT at h;cases hnb:au (Z args) D.fn.ntmps with
 |false=>rw[hnb]at h;cases h
 |true=>
 rw[hnb,aI]at h;have hn:=fQ hnb;obtain⟨⟨e0,s0⟩,h0,h⟩:=R.aF h;cases e0 with
 |exit _=>cases h
 |ret=>cases h
 |dR _=>cases h
 |nrm=>
 obtain⟨⟨e1,s1⟩,h1,h⟩:=R.aF h;simp only at h;split at h
 case h_2=>cases h
 rename_i g' first cap hd1 hx
 cases hgg:aL g' D.g with
 |false=>rw[hgg]at h;cases h
 |true=>
 rw[hgg,aI]at h;obtain rfl:=dZ hgg;obtain⟨⟨e2,s2⟩,h2,h⟩:=R.aF h;obtain⟨⟨rv,A1⟩,h3,h⟩:=R.aF h;obtain⟨A2,h4,h⟩:=R.aF h;obtain⟨vs,h5,h⟩:=R.aF h;simp only[av,bf]at h;obtain⟨rfl,rfl⟩:=h;rcases hih _ _ _ _ h0 with⟨v,he,_⟩|⟨hle0,c0⟩
 .cases he
 rcases Kk ok (M_ ok hih) (ops:= #[D.o1,D.od]) (i:=0) h1 with⟨v,s,he,_⟩|⟨s,he,hle1,c1⟩
 .cases he
 cases he;have hnA2:A1.next<=A2.next:=(RH ok hD h4).1
 have hrec:=(RH ok hD h4).2;have hle2:s1.m.next<=A1.next/\A1.next=s2.m.next:=by
  rcases hih _ _ _ _ h2 with⟨v,rfl,hp⟩|hc
  .simp only at h3;split at h3
   .simp only[av,bf]at h3;rw[<-h3.2];exact⟨hp.1,rfl⟩
   .cases h3
  .cases e2 with
   |dR v=>
    simp only at h3;split at h3
    .simp only[av,bf]at h3;rw[<-h3.2];exact⟨hc.1,rfl⟩
    .cases h3
   |exit _=>cases h3
   |nrm=>
    obtain⟨A3,h6,h7⟩:=R.aF h3;simp only[av,bf]at h7;rw[<-h7.2,DI h6];exact⟨hc.1,rfl⟩
   |ret=>
    obtain⟨A3,h6,h7⟩:=R.aF h3;simp only[av,bf]at h7;rw[<-h7.2,DI h6];exact⟨hc.1,rfl⟩
 have hn0:A.next<=s0.m.next:=hle0
 refine⟨by omega,λ ι w args' hr ha hfree fr0 cs0=>?_⟩;have hent:=NO hf' hD.hb args' .normal;have hro:(Frame.enter tb.P D.f args' .normal).roundOf=Y:=rfl;have hkd:(Frame.enter tb.P D.f args' .normal).kind=.normal:=rfl;have hdf:(Frame.enter tb.P D.f args' .normal).defers=[]:=rfl;have hfn:(Frame.enter tb.P D.f args' .normal).fn=D.f:=rfl;generalize Frame.enter tb.P D.f args' .normal=b at hent hro hkd hdf hfn;have hs:SR ι {t:=T.bP .e 0 args,n:=D.fn.ntmps,d:=[],m:=A,ro:=Y} b ⟨args'++tZ (D.fn.ntmps-args'.size) undef,[]⟩ w:=
  ⟨hr,TR.args ha hn,hro,hdf.symm⟩
 obtain⟨ι0,w0,a0,k0,st0,ha0,hs0,hss0⟩:=c0 ι b _ [.code (.seq (.region D.id1 #[D.o1,D.od] af) D.c2)] (fr0::cs0) w hs (λ x h1 h2=>hfree x h1 (by omega))
 cases (show k0=_ from ha0);have st0':Steps tb.P (lone b (fr0::cs0) w) (lone (b.atR a0 (.inRegion #[D.o1,D.od] [0,1]::[.code D.c2])) (fr0::cs0) w0):=by
  rw[hent];exact(Steps.head stepR_seq st0).trans (.head stepR_seq (.one stepR_region))
 have hw1:∀y,Region.wanted D.o1 y=aa:=λ y=>by unfold Region.wanted;rw[hD.go1]
 have hw2:∀y,Region.wanted D.od y=aa:=λ y=>by unfold Region.wanted;rw[hD.god]
 have hF0:ew ι0 s0.m s1.m:=ew.right (λ x h1 h2=>hfree x h1 (by have:A1.next=s2.m.next:=hle2.2;omega)) hss0.fT;obtain⟨ι1,w1,a1,st1,hs1,hss1⟩:=c1 ι0 b a0 [.code D.c2] (fr0::cs0) w0 [1] hs0 hF0 (hw1 _) rfl;obtain⟨v',hv1,hv2⟩:=hs1.tr.2 _ _ hx;cases hv2 with
 |func _ hfirst hcap=>
 rename_i first' cap' hny;have hev:a1.eval (.tmp D.x)=.func (.func D.g) first' cap':=by
  simp only[Act.eval,LO,hv1,td]
 obtain⟨dt,hdt1,hdt2⟩:∃dt:Deferred,(execOp a1.eval D.od).run tb.P w1=.ok (.defer dt) w1/\(∃t c,dt.target=.fn t c)/\∀u:aG,(invoke dt.target dt.args).run tb.P u=.ok (.enter D.g (first'++cap')) u:=by
  refine⟨{target:=.fn (.func D.g) cap',args:=first'++ #[]},?_,⟨_,_,rfl⟩,λ u=>?_⟩
  .have e0:(#[]:Array bA).map a1.eval= #[]:=by simp
   simp only[execOp,hD.hod,resolve,hev,Deferred.ofValue,aP,aW,aQ,e0]
  .simp only[invoke,callFunc,aP,run_program,aQ,hg',hD.hng,hD.hgb,Option.isNone_some,ed,bO,aW,Array.append_empty]
 have hd0:a1.defers=[]:=by
  have:=hs1.dr;rw[hd1,hdf]at this;exact this
 let a2:Act:={a1 with defers:=dt::a1.defers};let b2:Frame:={b with defers:=[dt]};have st2:Steps tb.P (lone (b.atR a1 (.inRegion #[D.o1,D.od] [1]::[.code D.c2])) (fr0::cs0) w1) (lone (b2.atR a2 [.code D.c2]) (fr0::cs0) w1):=
  .head (qhP hro rfl (hw2 _) hdt1 hD.dod) (.one stepR_region_end)
 have hsb:SR ι1 s1 b2 a2 w1:=⟨hs1.rel,hs1.tr,hs1.ro,by
  rw[hd1];show dt::a1.defers=[dt];rw[hd0]⟩
 have hStp1:=hss0.fT.trans hss1.fT;have hF1:ew ι1 s1.m s2.m:=ew.right (λ x h1 h2=>hfree x h1 (by have:A1.next=s2.m.next:=hle2.2;omega)) hStp1;have hpre:=(st0'.trans st1).trans st2;have tail:∀(ι2:a8) (w2:aG) (a3:Act) (k3:List Item) (md:FrameMode) (rv':O),Rel ι2 A1 w2->TR ι2 s2.n s2.t a3.tmps->bZ ι1 s1.m w1 ι2 A1 w2->gX ι1 ι2->VR ι2 rv rv'->
  (md=.returning/\rv'=.nilIface\/md=.panicking [{v:=rv',recovered:=af}])->
  ∃ι' w' v',Steps tb.P (lone {b2.atR {a3 with defers:=[dt]} k3 with mode:=md} (fr0::cs0) w2) (lone (fr0.finish v') cs0 w')/\VR ι' (oneOf vs) v'/\Rel ι' A2 w'/\bZ ι A w ι' A2 w':=by
  intro ι2 w2 a3 k3 md rv' hrel htr hst hle hrv hmd;have hStp2:=hStp1.trans hst;have hF2:=ew.right hfree hStp2;have hcaps:bn ι2 (first.toList++cap.toList) (first'++cap').toList:=by
   have h1:=bn.mono hle hfirst;have h2:=bn.mono hle hcap;rw[Array.toList_append];generalize first.toList=l1 at h1
   generalize first'.toList=l2 at h1;clear hfirst
   induction l1 generalizing l2 with
   |nil=>cases h1;exact h2
   |cons x l1 ih=>
    cases h1 with
    |cons hx hl=>exact .cons hx (ih _ hl)
  obtain⟨ι3,w3,mA,hrel3,hst3⟩:=hrec ι2 w2 (first'++cap') rv' {b2.atR {a3 with defers:=[]} k3 with mode:=md} (fr0::cs0) hrel hcaps hrv hF2 hmd;have stc:step tb.P (lone {b2.atR {a3 with defers:=[dt]} k3 with mode:=md} (fr0::cs0) w2)=.next (lone (Frame.enter tb.P D.g (first'++cap') .deferred) ({b2.atR {a3 with defers:=[]} k3 with mode:=md}::fr0::cs0) w2):=
   qhW rfl (by
    rcases hmd with⟨rfl,_⟩|rfl
    .exact .inl rfl
    .exact .inr ⟨_,rfl⟩) hdt2.1 (hdt2.2 w2)
  have hle3:=hst3.le hF2;obtain⟨v',e1,hv⟩:=KC ok hrel3 (htr.mono hle3) h5;have hlv:Frame.leaving tb.P {b2.atR {a3 with defers:=[]} k3 with mode:=.returning} w3 (.returned v'):=⟨rfl,rfl,hkd,D.fn,by show tb.P.funcs[b.fn]?=_;rw[hfn];exact hf',e1⟩;exact⟨ι3,w3,v',.head stc (mA.trans (.one (step_leave_returned hlv))),hv,hrel3,hStp2.trans hst3⟩
 rcases hih _ _ _ _ h2 with⟨v,rfl,hle,hp⟩|⟨hle,hc⟩
 .simp only at h3;split at h3
  case h_2=>cases h3
  rename_i hd2;simp only[av,bf]at h3;obtain⟨rfl,rfl⟩:=h3;obtain⟨ι2,w2,a3,k3,v3,mA,hv3,hs3,hss3⟩:=hp ι1 b2 a2 [] (fr0::cs0) w1 hsb hF1;have hd3:a3.defers=[dt]:=by
   have:=hs3.dr;rw[hd2]at this;exact this
  obtain⟨ι',w',v',st4,r1,r2,r3⟩:=tail ι2 w2 a3 k3 _ v3 hs3.rel hs3.tr hss3.fT (hss3.fT.le hF1) hv3 (.inr rfl);have ea:({a3 with defers:=[dt]}:Act)=a3:=by rw[<-hd3]
  rw[ea]at st4;exact⟨ι',w',v',(hpre.trans mA).trans st4,r1,r2,r3⟩
 .have he:(e2=.nrm\/e2=.ret)/\gU s2.d s2.m=.ok A1/\rv=.nilIface:=by
   cases e2 with
   |dR v=>
    obtain⟨ι2,w2,a3,k3,_,ha,_⟩:=hc ι1 b2 a2 [] (fr0::cs0) w1 hsb hF1;exact ha.elim
   |exit _=>cases h3
   |nrm=>
    obtain⟨A3,h6,h7⟩:=R.aF h3;simp only[av,bf]at h7;exact⟨.inl rfl,by rw[h6,h7.2],h7.1.symm⟩
   |ret=>
    obtain⟨A3,h6,h7⟩:=R.aF h3;simp only[av,bf]at h7;exact⟨.inr rfl,by rw[h6,h7.2],h7.1.symm⟩
  obtain⟨he,h6,rfl⟩:=he;obtain⟨ι2,w2,a3,k3,mA,ha3,hs3,hss3⟩:=hc ι1 b2 a2 [] (fr0::cs0) w1 hsb hF1;obtain⟨todo,st4⟩:=Mr hro he ha3;obtain⟨w3,DD,hrel3,hst3⟩:=GH tb.P h6 hs3.dr hs3.rel;obtain⟨ι',w',v',st6,r1,r2,r3⟩:=tail ι2 w3 a3 todo _ .nilIface hrel3 hs3.tr (hss3.fT.trans hst3) (hss3.fT.le hF1) .nilIface (.inl ⟨rfl,rfl⟩);exact⟨ι',w',v',(((hpre.trans mA).trans st4).trans DD).trans st6,r1,r2,r3⟩
end
section
variable {tb:aO}
def Ql(x:O):R O:=match x with
 |.pointer (U a)=>.ok (.pointer (U a))
 |.iface a b=>.ok (.iface a b)
 |.map a=>.ok (.map a)
 |.func (.func f) a b=>.ok (.func (.func f) a b)
 |.func (.yield f) a b=>.ok (.func (.yield f) a b)
 |_=>.no 213
def bV(a:Addr):Ql (.pointer (U a))=.ok (.pointer (U a)):=rfl
variable {dst:Option Tmp}{pos:String}{after:Array Edge}
def bW{ih:aH->St->R (Ex×St)}{ty:aj}{g:Option (Nat×Bool)}{s:St}{k:St->R (Ex×St)}(x:bA):bB tb ih {dst,op:=.nilCheck x,type:=ty,pos,after,guard:=g} s k=
 (ev s.t x).bind λ a=>(Ql a).bind λ v=>bS s dst v k:=by
 rw[mX (hc:=rfl) (hi:=rfl)];simp only[gT,R.ec];rfl
def qc2{a b:Int}(h1:-9223372036854775808<=a+b)(h2:a+b<=9223372036854775807):bj .add .i64 a b=.ok (.int .i64 (a+b)):=by
 show R.ok (Value.int .i64 (eP .i64 (a+b)))=_;rw[qt,xN h1 h2]
theorem GF(m:Nat):∀(vs:List O) (i:Nat) (c:T O),(∀v∈vs,bI v=aa)->(∀j,j<Z vs->(∃y,c.get (i+j)=U y)\/i+j<m)->nW m 0 vs i c=.ok (c.bP i vs)
 | [],_,_,_,_=>rfl
 |v::vs,i,c,h1,h2=>by
  unfold nW;have hb:(bI v&&au 0 i)=aa:=by rw[h1 v (cM ..)];simp
  have rest:nW m 0 vs (qA i) (c.set i v)=.ok ((c.set i v).bP (qA i) vs):=GF m vs (i+1) (c.set i v) (λ w hw=>h1 w (cU _ hw)) λ j hj=>by
   rw[T.cq];by_cases e:i+1+j=i
   .omega
   .rw[aq e,show i+1+j=i+(j+1) by omega];exact h2 (j+1) (by simp;omega)
  rw[hb,aI];rcases h2 0 (by simp)with⟨y,hy⟩|hy
  .rw[dN]at hy;rw[hy];exact rest
  .rw[dN]at hy;have hlt:aM i m=aa:=by rw[bT];exact hy
   cases hc:c.get i with
   |some _=>exact rest
   |none=>simp only[hlt,aI];exact rest
end
section
variable {tb:aO}
variable {A:Mem}{b o:Nat}{l vs:List O}
def de.put{e:aj}{k:Kd}(h:de A e b k l)(h1:∀v∈vs,bI v=aa)(h2:o+Z vs<=Z l)(h0:vs≠ []):
 ∃A',kQ A ⟨b,o,Y⟩ vs=.ok A'/\A'.next=A.next/\(∀x,x≠b->A'.get x=A.get x)/\∀l':List O,Z l'=Z l->(∀j,j<Z l->l'[j]?=if o<=j/\j<o+Z vs then vs[j-o]? else l[j]?)->de A' e b k l':=by
 obtain⟨c,h3,h4⟩:=h;have hst:nW (AU k) 0 vs o c=.ok (c.bP o vs):=GF _ vs o c h1 λ j hj=>.inl (by
  rw[h4 (o+j) (by omega),aV (show o+j<Z l by omega)];exact⟨_,rfl⟩)
 refine⟨A.set b (.cells e k 0 (c.bP o vs)),?_,cE _ _ _,λ x hx=>by rw[cr,aq hx],λ l' hl hj=>⟨_,by rw[cr,aC rfl],λ i hi=>?_⟩⟩
 .cases vs with
  |nil=>exact aZ rfl h0
  |cons v vs=>
   unfold kQ;simp only[h3,hst,R.aT]
 .rw[T.oO,hj i (by omega)];split
  .rfl
  .exact h4 i (by omega)
variable {n i:Nat}{ls:List (List O)}
def Ax(h:∀x∈ls,Z x=n)(hl:Z l=n)(hi:i<Z ls)(j:Nat)(hj:j<Z ls.flatten):
 ((ls.set i l).flatten)[j]?=if i*n<=j/\j<i*n+n then l[j-i*n]? else ls.flatten[j]?:=by
 have h':∀x∈ls.set i l,Z x=n:=λ x hx=>by
  rcases zP hx with hx|rfl
  .exact h x hx
  .exact hl
 rw[ic h]at hj;have hn:0<n:=Nat.pos_of_ne_zero λ e=>by rw[e]at hj;omega
 have hq:j/n<Z ls:=by rw[Hs hn];exact hj
 have hm:j % n<n:=iU _ hn;have e:j=j/n*n+j % n:=by rw[Nat.mul_comm,Nat.div_add_mod]
 have hx:=aV hq;by_cases hji:j/n=i
 .have hx':(ls.set i l)[j/n]?=U l:=by rw[hji,pR,aC rfl,aC hi]
  rw[hji]at e;rw[aC ⟨by omega,by omega⟩];have:=nz h' (by rw[<-hji];rw[hji]at hx'⊢;exact hx') hm;rw[<-e]at this;rw[this];congr 1;omega
 .have hx':(ls.set i l)[j/n]?=U ls[j/n]:=by rw[pR,aq (λ h=>hji h.symm),hx]
  have g1:=nz h' hx' hm;have g2:=nz h hx hm;rw[<-e]at g1 g2;rw[g1,g2,aq];rintro⟨h3,h4⟩;apply hji;have h5:=(Nat.le_div_iff_mul_le hn).2 h3;have h6:j/n<i+1:=(Hs hn).2 (by rw[oZ,ta];exact h4);omega
def ai.store{e t:aj}{x:O}(h:ai A e n b ls x)(hs:aY tb t=.ok n)(hn:0<n)(hi:i<Z ls)(hl:Z l=n)(h1:∀v∈l,bI v=aa):
 ∃A',bX tb A t (.pointer (U ⟨b,i*n,Y⟩)) (.agg ⟨l⟩)=.ok A'/\ai A' e n b (ls.set i l) x/\A'.next=A.next/\∀y,y≠b->A'.get y=A.get y:=by
 rcases h with⟨rfl,rfl⟩|⟨k,c,rfl,h2,h3,h4,h5⟩
 .simp at hi
 .have hlen:i*n+Z l<=Z ls.flatten:=by
   rw[ic h4,hl];have:=BJ n (show i+1<=Z ls from hi);rw[oZ,ta]at this;omega
  have h4':∀x∈ls.set i l,Z x=n:=λ x hx=>by
   rcases zP hx with hx|rfl
   .exact h4 x hx
   .exact hl
  obtain⟨A',g1,g2,g3,g4⟩:=h3.put h1 hlen (λ e=>by rw[e]at hl;simp at hl;omega);refine⟨A',?_,.inr ⟨k,c,by rw[dI],by omega,g4 _ (by rw[ic h4',ic h4,dI]) λ j hj=>by rw[Ax h4 hl hi j hj,hl],h4',by rw[dI];exact h5⟩,g2,g3⟩;unfold bX;have hc:(Value.agg ⟨l⟩).cells.toList=l:=rfl;simp only[hs,R.aT,hc,hl,uj,aI];exact g1
variable {j:Nat}
def ai.field{e t:aj}{x v:O}(h:ai A e n b ls x)(hs:aY tb t=.ok 1)(hi:ls[i]?=U l)(hj:j<n)(hv:v.cells.toList=[v])(h1:bI v=aa):
 ∃A',bX tb A t (.pointer (U ⟨b,i*n+j,Y⟩)) v=.ok A'/\ai A' e n b (ls.set i (l.set j v)) x/\A'.next=A.next/\∀y,y≠b->A'.get y=A.get y:=by
 have hil:=(bg.1 hi).1;rcases h with⟨rfl,rfl⟩|⟨k,c,rfl,h2,h3,h4,h5⟩
 .simp at hil
 .have hl:=h4 l (fh hi);have hlen:=CV h4 hil hj;have h4':∀x∈ls.set i (l.set j v),Z x=n:=λ x hx=>by
   rcases zP hx with hx|rfl
   .exact h4 x hx
   .rw[dI];exact hl
  obtain⟨A',g1,g2,g3,g4⟩:=h3.put (o:=i*n+j) (λ w hw=>by rw[ee.1 hw];exact h1) (by rw[fg];omega) (by simp);refine⟨A',?_,.inr ⟨k,c,by rw[dI],by omega,g4 _ (by rw[ic h4',ic h4,dI]) λ m hm=>?_,h4',by rw[dI];exact h5⟩,g2,g3⟩
  .unfold bX;simp only[hs,R.aT,hv,fg,uj,aI];exact g1
  .rw[Ax h4 (by rw[dI];exact hl) hil m hm,fg];by_cases hin:i*n<=m/\m<i*n+n
   .rw[aC hin,pR];by_cases hmj:j=m-i*n
    .rw[aC hmj,aC (by omega),aC ⟨by omega,by omega⟩];have:m-(i*n+j)=0:=by omega
     rw[this];rfl
    .rw[aq hmj,aq (by omega)];have:=nz h4 hi (j:=m-i*n) (by omega);rw[show i*n+(m-i*n)=m by omega]at this;exact this.symm
   .rw[aq hin,aq (by omega)]
end
section
variable {tb:aO}
def CT(tb:aO)(fn:Func):Ex×St->R (O×Mem)
 |(.nrm,⟨t,_,[],m,_⟩)|(.ret,⟨t,_,[],m,_⟩)=>(eC tb t m.get fn.results.toList).bind λ vs=>.ok (oneOf vs,m)
 |_=>.no 0
def ZQ(fn:Func)(t:T O)(n:Nat)(m:Mem)(ro:Option Nat):CT tb fn (.ret,⟨t,n,[],m,ro⟩)=(eC tb t m.get fn.results.toList).bind λ vs=>.ok (oneOf vs,m):=rfl
def ZP(fn:Func)(t:T O)(n:Nat)(m:Mem)(ro:Option Nat):CT tb fn (.nrm,⟨t,n,[],m,ro⟩)=(eC tb t m.get fn.results.toList).bind λ vs=>.ok (oneOf vs,m):=rfl
def okF(tb:aO)(f:FuncId)(fn:Func)(args:List Value):Bool:=fn.body.isSome&&(au args.length fn.ntmps&&(!(fn.name== "runtime.NumGoroutine")&&(tb.hk.get f).isNone))
variable {fn:Func}
def Kf{f:FuncId}{args:List Value}(h:okF tb f fn args=true):(∃c,fn.body=some c/\fn.body.getD .skip=c)/\args.length<=fn.ntmps/\(fn.name== "runtime.NumGoroutine")=false/\tb.hk.get f=none:=by
 unfold okF at h;simp only[dz,Option.isSome_iff_exists,pT,Bool.not_eq_true',Option.isNone_iff_eq_none]at h;obtain⟨⟨c,hc⟩,h1,h2,h3⟩:=h;exact⟨⟨c,hc,by rw[hc];rfl⟩,h1,h2,h3⟩
variable {A A':Mem}
def bQ{f:FuncId}{args:List O}{v:O}(g n:Nat)(hf:tb.fn.get f=U fn)(hk:okF tb f fn args=aa)
 (h:∀M,g<=M->(exec tb (M+n) (fn.body.getD .skip) ⟨T.bP .e 0 args,fn.ntmps,[],A,Y⟩).bind (CT tb fn)=.ok (v,A')):az tb f args A v A':=by
 obtain⟨⟨c,hc,hcd⟩,hn,hnm,hk⟩:=Kf hk;rw[hcd]at h;refine⟨g+n,λ M hM=>?_⟩;obtain⟨m,rfl⟩:∃m,M=m+n:=⟨M-n,by omega⟩;have:=h m (by omega);unfold cH;simp only[hf,hc,hnm,hk,ba];unfold uC;rw[show au (Z args) fn.ntmps=aa by rw[pT];exact hn,aI];cases he:exec tb (m+n) c ⟨T.bP .e 0 args,fn.ntmps,[],A,Y⟩with
 |no _=>rw[he]at this;cases this
 |ok r=>
  rw[he,R.aT]at this;rw[R.aT];obtain⟨e,t,k,d,B,ro⟩:=r;cases d with
  |cons _ _=>cases e<;>cases this
  |nil=>
   cases e<;>first|cases this;done|skip
   all_goals
    simp only[CT]at this;simp only[gU,R.aT];cases hr:eC tb t B.get fn.results.toList with
    |no _=>rw[hr]at this;cases this
    |ok vs=>rw[hr]at this;cases this;rfl
def cG{f:FuncId}{args:List O}{v:O}(n:Nat)(hf:tb.fn.get f=U fn)(hk:okF tb f fn args=aa)
 (h:∀M,(exec tb (M+n) (fn.body.getD .skip) ⟨T.bP .e 0 args,fn.ntmps,[],A,Y⟩).bind (CT tb fn)=.ok (v,A')):az tb f args A v A':=bQ 0 n hf hk λ M _=>h M
end
def i2{a b:Prop}(x:a)(y:b):a/\b:=⟨x,y⟩
def Zg(t:T O):eI t []=.ok []:=rfl
def Zf(t:T O)(x:bA)(xs:List bA):eI t (x::xs)=(ev t x).bind λ v=>(eI t xs).bind λ vs=>.ok (v::vs):=rfl
def Zb(t:T O):mQ t Y=.ok Y:=rfl
def Zc(t:T O)(x:bA):mQ t (U x)=(ev t x).bind λ v=>.ok (U v):=rfl
def Ze(t:T O):oM t []=.ok []:=rfl
def Zd(t:T O)(i:Nat)(x:bA)(xs:List (Nat×bA)):oM t ((i,x)::xs)=(ev t x).bind λ v=>(oM t xs).bind λ vs=>.ok ((i,v)::vs):=rfl
def qdJ(s:St)(dst:Option Tmp)(k:St->R (Ex×St))(v:O)(A:Mem):AT s dst k (.val v A)=bS {s with m:=A} dst v k:=rfl
def qdI(s:St)(dst:Option Tmp)(k:St->R (Ex×St))(v:O)(A:Mem):AT s dst k (.dR v A)=.ok (.dR v,{s with m:=A}):=rfl
def qdG(tb:aO)(t:T O)(g:Nat->Option Ob):eC tb t g []=.ok []:=rfl
def qdH(tb:aO)(t:T O)(g:Nat->Option Ob)(i:Nat)(rs:List ResultVar):eC tb t g (.tmp i::rs)=(ev t (.tmp i)).bind λ v=>(eC tb t g rs).bind λ vs=>.ok (v::vs):=rfl
def qdF(tb:aO)(t:T O)(g:Nat->Option Ob)(i:Nat)(ty:aj)(rs:List ResultVar):eC tb t g (.cell i ty::rs)=(ev t (.tmp i)).bind λ a=>(ax tb g ty a).bind λ v=>(eC tb t g rs).bind λ vs=>.ok (v::vs):=rfl
def qcS:oneOf []=.tuple ⟨[]⟩:=rfl
def qcT(v:O):oneOf [v]=v:=rfl
def qcR(a b:O)(l:List O):oneOf (a::b::l)=.tuple ⟨a::b::l⟩:=rfl
def qii(A:Mem):gU [] A=.ok A:=rfl
def qih(b:Nat)(bs:List Nat)(A:Mem):gU (b::bs) A=match A.get b with|some .defd=>gU bs (A.set b .dead)|_=>.no 240:=rfl
def qdh(t:T O)(a b:bA):Ga t (.bool aa) a b=ev t a:=rfl
def qdg(t:T O)(a b:bA):Ga t (.bool af) a b=ev t b:=rfl
def Zo(vs:Array O)(i:Nat):Je (.tuple vs) i=match vs.toList[i]? with|some v=>.ok v|none=>.no 211:=rfl
def qi1:cL=.tuple ⟨[]⟩:=rfl
def cg(f:Func):aH:=f.body.getD .skip
def Wm(f:Func):cg f=f.body.getD .skip:=rfl
def Aq:=
 i2 @Wm<|
 i2 @ZQ<|
 i2 @ZP<|
 i2 @Zg<|
 i2 @Zf<|
 i2 @Zb<|
 i2 @Zc<|
 i2 @Ze<|
 i2 @Zd<|
 i2 @qdJ<|
 i2 @qdI<|
 i2 @qdG<|
 i2 @qdH<|
 i2 @qdF<|
 i2 @qcS<|
 i2 @qcT<|
 i2 @qcR<|
 i2 @qii<|
 i2 @qih<|
 i2 @qdh<|
 i2 @qdg<|
 i2 @Zo<|
 i2 @cond_true.{1}<|
 i2 @cond_false.{1}<|
 i2 @T.iD<|
 i2 @T.my<|
 i2 @CM<|
 i2 @CL<|
 i2 @Qi<|
 i2 @N3<|
 i2 @Fe<|
 i2 @N5<|
 i2 @N4<|
 i2 @N2<|
 i2 @Jc<|
 i2 @RX<|
 i2 @RY<|
 i2 @QX<|
 i2 @QC<|
 i2 @QB<|
 i2 @QY<|
 i2 @QM<|
 i2 @Q2<|
 i2 @QQ<|
 i2 @QR<|
 i2 @QP<|
 i2 @QO<|
 i2 @QE<|
 i2 @Q0<|
 i2 @QN<|
 i2 @QZ<|
 i2 @QT<|
 i2 @QA<|
 i2 @QD<|
 i2 @QH<|
 i2 @QU<|
 i2 @Q1<|
 i2 @QK<|
 i2 @QS<|
 i2 @QV<|
 i2 @QI<|
 i2 @QJ<|
 i2 @sA<|
 i2 @sq<|
 i2 @NX<|
 i2 @NV<|
 i2 @N0<|
 i2 @R.aT<|
 i2 @Rv<|
 i2 @Ru<|
 i2 @T.cq<|
 i2 @T.pC<|
 i2 @MB<|
 i2 @Dj<|
 i2 @Ra<|
 i2 @Re<|
 i2 @Q9<|
 i2 @Q6<|
 i2 @Kl<|
 i2 @Q3<|
 i2 @Rc<|
 i2 @Q5<|
 i2 @Rf<|
 i2 @Q_<|
 i2 @ME<|
 i2 @MF<|
 i2 @Q8<|
 i2 @Q'<|
 i2 @Q4<|
 i2 @MC<|
 i2 @DW<|
 i2 @LF<|
 i2 @Qc<|
 i2 @J7<|
 i2 @Np<|
 i2 @gY<|
 i2 @BK<|
 i2 @if_true.{1}<|
 i2 @if_false.{1}<|
 i2 @ne_eq.{1}<|
 i2 @not_true_eq_false<|
 i2 @not_false_eq_true<|
 i2 @decide_true<|
 i2 @decide_false<|
 i2 @ed<|
 i2 @sZ<|
 i2 @xQ<|
 i2 @TO<|
 i2 @TT<|
 i2 @TU<|
 i2 @TL<|
 i2 @TM<|
 i2 @TK<|
 i2 @TN<|
 i2 @TS<|
 i2 @TP<|
 i2 @TQ<|
 i2 @td.{0}<|
 i2 @Mt<|
 i2 @uB<|
 i2 @R6<|
 i2 @RZ<|
 i2 @N1<|
 i2 @F5<|
 i2 @F6<|
 i2 @Q7<|
 i2 @MG<|
 i2 @DG<|
 i2 @Lh<|
 i2 @TF<|
 i2 @sj<|
 i2 @sd<|
 i2 @aX<|
 i2 @Wn<|
 i2 @Wo<|
 i2 @Kn<|
 i2 @bne_self_eq_false.{0}<|
 i2 @beq_self_eq_true.{0}<|
 i2 @eq_self.{1}<|
 i2 @yQ<|
 i2 @tL<|
 i2 @builtin_append<|
 i2 @kx<|
 i2 @qU<|
 i2 @eO<|
 i2 @NY<|
 i2 @fb<|
 i2 @qcX<|
 i2 @X4<|
 i2 @X5<|
 i2 @u6<|
 i2 @fm<|
 i2 @iZ<|
 i2 @hZ<|
 i2 @fk<|
 i2 @lX.{0}<|
 i2 @ij.{0}<|
 i2 @kR.{0}<|
 @qiJ
def Fq:=
 i2 @qd7<|
 i2 @qd5<|
 i2 @qd6<|
 i2 @qd3<|
 i2 @qd4<|
 i2 @qec<|
 i2 @qea<|
 i2 @qeb<|
 i2 @qd8<|
 i2 @qd9<|
 i2 @Vb<|
 i2 @U'<|
 i2 @AY<|
 i2 @qg3<|
 i2 @qg5<|
 i2 @qg4<|
 i2 @qg6<|
 i2 @qg8<|
 i2 @qg7<|
 i2 @qdA<|
 i2 @qdz<|
 i2 @qdC<|
 i2 @qdB<|
 i2 @qdE<|
 i2 @qdD<|
 i2 @qds<|
 i2 @O'<|
 i2 @Vu<|
 i2 @rB.{0,0}<|
 i2 @sY<|
 i2 @t_<|
 @Bool.and_self
def Wq:=
 i2 @Ux<|
 i2 @Uw<|
 i2 @NJ<|
 i2 @NI<|
 i2 @T.cq<|
 i2 @T.pC<|
 i2 @if_true.{1}<|
 i2 @if_false.{1}<|
 i2 @Uy<|
 i2 @Uz<|
 i2 @cond_true.{1}<|
 i2 @cond_false.{1}<|
 i2 @sZ<|
 i2 @xQ<|
 i2 @qi1<|
 @List.toList_toArray.{0}
abbrev pw (b o:Nat):O:=.pointer (U ⟨b,o,Y⟩)
abbrev wN (n:Nat):O:=.int .u32 n
abbrev bN (n:Nat):O:=.int .u8 n
abbrev uN (n:Nat):O:=.int .u64 n
abbrev iN (n:Nat):O:=.int .i64 n
section
variable {tb:aO}
def Sq:=i2 @U7<|i2 @U8<|i2 @T.cq<|i2 @T.iD<|i2 @T.my<|i2 @if_true.{1}<|i2 @if_false.{1}<|i2 @and_true<| @true_and
variable {s':St}
def W.q{a b:aH}{s:St}{K:Ex->St->Prop}(h:∀M,exec tb (M+20) a s=.ok (.nrm,s'))(k:W tb b s' K):W tb (.seq a b) s K:=W.seq (W.run 20 h k)
def W.qG{a b:aH}{s:St}{K:Ex->St->Prop}(g:Nat)(h:∀M,g<=M->exec tb (M+20) a s=.ok (.nrm,s'))(k:W tb b s' K):W tb (.seq a b) s K:=W.seq (W.ct g 20 h k)
def W.ie{a b c:aH}{s:St}{K:Ex->St->Prop}(g:Nat)
 (h:∀M,g<=M->∀k:St->R (Ex×St),((exec tb (M+20) a s).bind λ(e,s1)=>match e with
  |.nrm=>(exec tb (M+19) b s1).bind λ(e,s2)=>match e with
   |.nrm=>k s2
   |e=>.ok (e,s2)
  |e=>.ok (e,s1))=k s')(k:W tb c s' K):W tb (.seq a (.seq b c)) s K:=by
 obtain⟨e,s2,⟨f,h1⟩,h2⟩:=k;refine⟨e,s2,⟨g+f+21,λ m=>?_⟩,h2⟩;have h3:=h (m+g+f) (by omega) (exec tb (m+g+f+19) c);have h4:=h1 (m+g+19);rw[show m+g+19+f=m+g+f+19 by omega]at h4;rw[<-h4,<-h3,show m+(g+f+21)=(m+g+f+20)+1 by omega,CM];congr 1
def W.q2{a b c:aH}{s:St}{K:Ex->St->Prop}
 (h:∀M,∀k:St->R (Ex×St),((exec tb (M+20) a s).bind λ(e,s1)=>match e with
  |.nrm=>(exec tb (M+19) b s1).bind λ(e,s2)=>match e with
   |.nrm=>k s2
   |e=>.ok (e,s2)
  |e=>.ok (e,s1))=k s')(k:W tb c s' K):W tb (.seq a (.seq b c)) s K:=W.ie 0 (λ M _=>h M) k
end
abbrev zV:=List (List O×O)
def zg(a b:List O):Bool:=aL (Z a) (Z b)&&(a.zip b).all λ p=>cP 100 p.1 p.2
theorem SX:∀{a b:List O},zg a b=aa->a=b
 | [],[],_=>rfl
 | [],_::_,h=>by cases h
 |_::_,[],h=>by cases h
 |x::a,y::b,h=>by
  unfold zg at h;rw[dz]at h;obtain⟨h1,h2⟩:=h;rw[List.zip_cons_cons,Eb,dz]at h2;have h3:Z a=Z b:=by have:=dZ h1;simpa using this
  have h4:zg a b=aa:=by unfold zg;rw[dz];exact⟨by rw[pS];exact h3,h2.2⟩
  rw[zh 100 x y h2.1,SX h4]
def xy:zV->List O->Option O
 | [],_=>Y
 |p::l,args=>bif zg p.1 args then U p.2 else xy l args
theorem P':∀{l:zV} {args:List O} {v:O},xy l args=U v->(args,v)∈l
 | [],_,_,h=>by cases h
 |p::l,args,v,h=>by
  have h':(bif zg p.1 args then U p.2 else xy l args)=U v:=h;cases hs:zg p.1 args with
  |true=>
   rw[hs,aI]at h';cases h';rw[<-SX hs];exact cM ..
  |false=>
   rw[hs,ba]at h';exact cU _ (P' h')
def isVal(r:R nh)(v:O):Bool:=
 match r with
 |.ok (.val u _)=>cP 100 u v
 |_=>af
def J6(tb:aO)(n:Nat)(f:FuncId)(l:zV):Bool:=l.all λ p=>p.1.all (flat 9)&&flat 9 p.2&&isVal (call tb n f p.1 iB) p.2
variable {tb:aO}{fn:Func}{n:Nat}
def qb6(ok:dP tb){f:FuncId}{c:aH}{l:zV}(hf:tb.fn.get f=U fn)(hb:fn.body=U c)(h:J6 tb n f l=aa):dP (tb.sM f (dV (xy l))):=by
 refine jy ok (xi ok hf hb λ args v hv=>?_);have h1:=ov.1 h _ (P' hv);simp only[dz]at h1;obtain⟨⟨h2,h3⟩,h4⟩:=h1;refine⟨λ x hx=>ov.1 h2 x hx,h3,n,?_⟩;unfold isVal at h4;split at h4
 .rename_i u A e;rw[<-zh _ _ _ h4];exact⟨A,e⟩
 .cases h4
end Go.Am
namespace Go.Proofs.YtdobfpkceacneaaGreatDoor.sto
open Go.Am
noncomputable def exts:T Nat:=((((T.e.set 241 4).set 258 5).set 259 1).set 260 3)
def Zj:vY 4 Tryz.f241:=⟨by kernel_rfl,by kernel_rfl,by kernel_rfl,by show Extern.find Tryz.f241=U Extern.MapsClone.clone;kernel_rfl⟩
def Zk:vY 5 Tryz.f258:=⟨by kernel_rfl,by kernel_rfl,by kernel_rfl,by show Extern.find Tryz.f258=(Extern.MathBitsCarry.rows[0]?).map (·.2);kernel_rfl⟩
def Zl:vY 1 Tryz.f259:=⟨by kernel_rfl,by kernel_rfl,by kernel_rfl,by show Extern.find Tryz.f259=U Extern.AbiNoEscape.same;kernel_rfl⟩
def Zm:vY 3 Tryz.f260:=⟨by kernel_rfl,by kernel_rfl,by kernel_rfl,by show Extern.find Tryz.f260=U (Extern.BytealgMakeNoZero.makeNoZero Tryz.f260.params Tryz.f260.resultTypes);kernel_rfl⟩
def Zp:∀f k fn,exts.get f=U k->uq.prog.funcs[f]?=U fn->vY k fn:=by
 intro f k fn h hf;unfold exts at h;simp only[T.cq,T.pC]at h;split at h
 .rename_i e;subst e;cases h;cases je (hf.symm.trans Tryz.func260);exact Zm
 split at h
 .rename_i e;subst e;cases h;cases je (hf.symm.trans Tryz.func259);exact Zl
 split at h
 .rename_i e;subst e;cases h;cases je (hf.symm.trans Tryz.func258);exact Zk
 split at h
 .rename_i e;subst e;cases h;cases je (hf.symm.trans Tryz.func241);exact Zj
 cases h
noncomputable def bc:aO:=Ll uq.prog exts
def rm:dP bc:=TY uq _ Zp
variable {k:Nat}{fn:Func}
def b_(h:dq.funcs[k]?=U fn):bc.fn.get k=U fn:=by
 show(T.ofList uq.prog.funcs.toList).get k=_;rw[T.Az,fW];exact h
section
section
variable {tb:aO}{ih:aH->St->R (Ex×St)}
variable (dst:Option Tmp)(ty:aj)(pos:String)(after:Array Edge)(g:Option (Nat×Bool))(s:St)(k:St->R (Ex×St))
def Dg(t:aj)(r:Option bA):bB tb ih {dst,op:=.makeMap t r,type:=ty,pos,after,guard:=g} s k=
 (mQ s.t r).bind λ r=>(tP tb t r).bind λ(ob,way)=>bS {s with m:=s.m.alloc ob} dst (way.at s.m.next) k:=by
 rw[AS _ _ _ _ _ _ _ rfl rfl];simp only[l_,R.ec]
def zb(t:aj)(m x v:bA):bB tb ih {dst,op:=.mapUpdate t m x v,type:=ty,pos,after,guard:=g} s k=
 (ev s.t m).bind λ m=>(ev s.t x).bind λ x=>(ev s.t v).bind λ v=>(mw tb s.m t m x v).bind λ A=>bS {s with m:=A} dst cL k:=by
 unfold bB;show((jX tb s.t s.m (.mapUpdate t m x v)).bind λ(v,A)=>bS {s with m:=A} dst v k)=_;simp only[jX,R.ec,R.aT]
def uZ(t:aj)(m x:bA)(b:Bool):bB tb ih {dst,op:=.lookup t m x b,type:=ty,pos,after,guard:=g} s k=
 (ev s.t m).bind λ m=>(ev s.t x).bind λ x=>(oQ tb s.m.get t m x b).bind λ v=>bS s dst v k:=by
 rw[uY _ _ _ _ _ _ _ rfl rfl];simp only[eB,R.ec]
def Kw(t:T O)(g:Nat->Option Ob)(e:aj)(m x:bA)(b:Bool):eB tb t g (.lookup e m x b)=(ev t m).bind λ m=>(ev t x).bind λ x=>oQ tb g e m x b:=rfl
end
def Ng(b:Bool):(Value.bool b).cells.toList=[.bool b]:=rfl
def IL(b:Option Nat):(Value.map b).cells.toList=[.map b]:=rfl
def pA(b:Option Addr):(Value.pointer b).cells.toList=[.pointer b]:=rfl
def Cj(b:Nat):Way.mp.at b=.map (U b):=rfl
variable {tb:aO}
def zw:bc.aB 3=U (.int .i64):=by kernel_rfl
def DO:bc.aB 4=U .bool:=by kernel_rfl
def oc:bc.aB 5=U (.int .u8):=by kernel_rfl
def oe:bc.aB 9=U .string:=by kernel_rfl
def tY:bc.aB 147=U (.int .u64):=by kernel_rfl
def Kp(A A':Mem):Prop:=A.next<=A'.next/\∀z,z<A.next->A'.get z=A.get z
def Kp.refl(A:Mem):Kp A A:=⟨aJ _,λ _ _=>rfl⟩
variable {A B C:Mem}
def Kp.trans(h:Kp A B)(k:Kp B C):Kp A C:=⟨dp h.1 k.1,λ z hz=>by rw[k.2 z (by have:=h.1;omega),h.2 z hz]⟩
def Kp.alloc(A:Mem)(o:Ob):Kp A (A.alloc o):=⟨by rw[aA];omega,λ z hz=>c9 (by omega)⟩
def VB(A:Mem)(e:aj)(b:Nat)(k:Kd)(l:List O):Prop:=b<A.next/\de A e b k l
variable {A':Mem}{b:Nat}{l:List O}
def VB.kp{e:aj}{k:Kd}(h:VB A e b k l)(q:Kp A A'):VB A' e b k l:=⟨dc h.1 q.1,h.2.same (q.2 b h.1)⟩
variable {o:Nat}
def VB.ld{e t:aj}{d:TypeDesc}{k:Kd}{v:O}(h:VB A e b k l)(hv:l[o]?=U v)(hu:tb.aB t=U d)(ha:cW d=af):ax tb A.get t (pw b o)=.ok v:=c7 hu ha h.2 hv
def Fin(tb:aO)(fn:Func)(v:O)(A':Mem)(e:Ex)(s:St):Prop:=(e=.nrm\/e=.ret)/\s.d=[]/\s.m=A'/\(eC tb s.t A'.get fn.results.toList).bind (λ vs=>.ok (oneOf vs))=.ok v
def yK{f:FuncId}{c:aH}{args:List O}{v:O}(hf:tb.fn.get f=U fn)(hb:fn.body=U c)(ho:okF tb f fn args=aa)
 (h:W tb c ⟨T.bP .e 0 args,fn.ntmps,[],A,Y⟩ (Fin tb fn v A')):az tb f args A v A':=by
 obtain⟨-,hn,hnm,hk⟩:=Kf ho;obtain⟨v',B,hg,rfl,rfl⟩:∃v' B,az tb f args A v' B/\v'=v/\B=A':=by
  refine mc hf hb hn hnm hk (h.mono λ e s hs=>?_);obtain⟨h1,h2,h3,h4⟩:=hs;rw[h2,h3];cases hr:eC tb s.t A'.get fn.results.toList with
  |no _=>rw[hr]at h4;cases h4
  |ok vs=>
   rw[hr]at h4;exact⟨h1,A',vs,rfl,hr,by cases h4;rfl,rfl⟩
 exact hg
def FO(a b:List UInt8):xr (ag a) (ag b)=U (decide (a=b)):=by
 show U (nt a b)=_;rw[pj];congr 1;by_cases h:a=b<;>simp[h]
def PG(k:cY)(a b:Int):xr (.int k a) (.int k b)=U (decide (a=b)):=by
 show(bif iA k k then U (ky a b)else Y)=_;rw[FI,show iA k k=aa by cases k<;>rfl];rfl
def dh:List (List UInt8)->Nat->List MapEntry
 | [],_=>[]
 |n::ns,o=>⟨ag n,.int .i64 (o+1:Nat),o⟩::dh ns (o+1)
theorem Db(w:List UInt8):∀(ns:List (List UInt8)) (o j:Nat),findF (ag w) (dh ns o) j=U ((ns.findIdx? λ n=>decide (w=n)).map λ i=>(j+i,.int .i64 (o+i+1:Nat)))
 | [],o,j=>rfl
 |n::ns,o,j=>by
  unfold dh findF;simp only[FO,List.findIdx?_cons];by_cases h:w=n
  .simp[h]
  .simp only[h,decide_false,ed,bO];rw[Db w ns (o+1) (j+1)];cases ns.findIdx? λ n=>decide (w=n)with
   |none=>rfl
   |some i=>simp[ye,Nat.add_left_comm];omega
def mR:List Nat->Nat->List MapEntry
 | [],_=>[]
 |p::ps,o=>⟨.int .i64 (o+1:Nat),.pointer (U ⟨p,0,Y⟩),o⟩::mR ps (o+1)
theorem Js(q:Nat):∀(ps:List Nat) (o j:Nat),o<=q->findF (.int .i64 (q+1:Nat)) (mR ps o) j=U ((ps[q-o]?).map λ p=>(j+(q-o),.pointer (U ⟨p,0,Y⟩)))
 | [],o,j,_=>by simp[mR,findF]
 |p::ps,o,j,h=>by
  unfold mR findF;simp only[PG];by_cases hq:q=o
  .subst hq;simp
  .rw[decide_eq_false (by omega)];rw[Js q ps (o+1) (j+1) (by omega),show q-o=(q-(o+1))+1 by omega,dU];cases ps[q-(o+1)]? with
   |none=>rfl
   |some p=>simp only[fZ];congr 2;simp;omega
end
section
variable {tb:aO}{A:Mem}{e t:aj}{d:TypeDesc}{b:Nat}{k:Kd}{v x0 x1 x2 x3 x4:O}{l:List O}
def VB.l0(h:VB A e b k (v::l))(hu:tb.aB t=U d)(ha:cW d=af):ax tb A.get t (pw b 0)=.ok v:=h.ld rfl hu ha
def VB.l1(h:VB A e b k (x0::v::l))(hu:tb.aB t=U d)(ha:cW d=af):ax tb A.get t (pw b 1)=.ok v:=h.ld rfl hu ha
def VB.l2(h:VB A e b k (x0::x1::v::l))(hu:tb.aB t=U d)(ha:cW d=af):ax tb A.get t (pw b 2)=.ok v:=h.ld rfl hu ha
def VB.l3(h:VB A e b k (x0::x1::x2::v::l))(hu:tb.aB t=U d)(ha:cW d=af):ax tb A.get t (pw b 3)=.ok v:=h.ld rfl hu ha
def VB.l4(h:VB A e b k (x0::x1::x2::x3::v::l))(hu:tb.aB t=U d)(ha:cW d=af):ax tb A.get t (pw b 4)=.ok v:=h.ld rfl hu ha
def VB.l5(h:VB A e b k (x0::x1::x2::x3::x4::v::l))(hu:tb.aB t=U d)(ha:cW d=af):ax tb A.get t (pw b 5)=.ok v:=h.ld rfl hu ha
def VB.m1(h:VB A e b k (x0::v::l))(hu:tb.aB t=U d)(ha:cW d=af):ax tb A.get t (pw b (0+1))=.ok v:=h.ld rfl hu ha
def VB.m2(h:VB A e b k (x0::x1::v::l))(hu:tb.aB t=U d)(ha:cW d=af):ax tb A.get t (pw b (0+2))=.ok v:=h.ld rfl hu ha
end
end Go.Proofs.YtdobfpkceacneaaGreatDoor.sto
namespace Go.Am
namespace T
variable {α:Type}
def qdo(x y:α):∀(f:Nat) (t:T α) (k:Nat),put x f (put y f t k) k=put x f t k:=by
 intro f
 induction f with
 |zero=>intro t k;rfl
 |succ f ih=>
  intro t k;cases t with
  |e=>
   rw[Dr,Dr];split
   .rw[qk,aC (by assumption)]
   .split
    .rw[qk,aq (by assumption),aC (by assumption),ih]
    .rw[qk,aq (by assumption),aq (by assumption),ih]
  |n l v r=>
   rw[qk,qk x f k l r v];split
   .rw[qk,aC (by assumption)]
   .split
    .rw[qk,aq (by assumption),aC (by assumption),ih]
    .rw[qk,aq (by assumption),aq (by assumption),ih]
def put_comm(x y:α):∀(f g:Nat) (t:T α) (k j:Nat),k≠j->put x f (put y g t j) k=put y g (put x f t k) j:=by
 intro f
 induction f with
 |zero=>intro g t k j _;rfl
 |succ f ih=>
  intro g t k j h;cases g with
  |zero=>rfl
  |succ g=>
   cases t with
   |e=>
    rw[Dr,Dr];by_cases k0:k=0<;>by_cases j0:j=0<;>by_cases k1:k % 2=1<;>by_cases j1:j % 2=1<;>
     first
     |(exfalso;omega)
     |(simp only[k0,j0,k1,j1,bR,bO,qk];first|done|rfl|(rw[ih];omega)|(congr 1;try (rw[ih];omega)))
   |n l v r=>
    rw[qk,qk];by_cases k0:k=0<;>by_cases j0:j=0<;>by_cases k1:k % 2=1<;>by_cases j1:j % 2=1<;>
     first
     |(exfalso;omega)
     |(simp only[k0,j0,k1,j1,bR,bO,qk];first|done|rfl|(rw[ih];omega)|(congr 1;try (rw[ih];omega)))
def set_set(t:T α)(k:Nat)(x y:α):(t.set k y).set k x=t.set k x:=qdo x y _ t k
variable {k j:Nat}
def set_comm(t:T α)(x y:α)(h:k≠j):(t.set j y).set k x=(t.set k x).set j y:=put_comm x y _ _ t k j h
theorem Kv:∀(l:List α) (t:T α) (i k:Nat) (x:α),k<i->(t.bP i l).set k x=(t.set k x).bP i l
 | [],_,_,_,_,_=>rfl
 |y::l,t,i,k,x,h=>by
  rw[iD,iD,Kv l _ (i+1) k x (by omega),set_comm _ _ _ (by omega)]
theorem Ry:∀(l l':List α) (t:T α) (i:Nat),Z l'=Z l->(t.bP i l).bP i l'=t.bP i l'
 | [],[],_,_,_=>rfl
 |x::l,y::l',t,i,h=>by
  rw[iD,iD,iD,Kv _ _ _ _ _ (yg i),set_set];exact Ry l l' _ (i+1) (by simpa using h)
theorem Rx:∀(l:List α) (t:T α) (i o:Nat) (x:α),o<Z l->(t.bP i l).set (i+o) x=t.bP i (l.set o x)
 |y::l,t,i,0,x,_=>by
  rw[dN,iD,Kv _ _ _ _ _ (yg i),set_set];rfl
 |y::l,t,i,o+1,x,h=>by
  rw[iD,show i+(o+1)=(i+1)+o by omega,Rx l _ (i+1) o x (by simpa using h)];rfl
end T
def S6(A:Mem)(o o':Ob):(A.alloc o).set A.next o'=A.alloc o':=by
 show Mem.mk ((A.heap.set A.next o).set A.next o') _=Mem.mk _ _;rw[T.set_set];rfl
variable {tb:aO}
variable {A:Mem}{b o:Nat}
def qbI{y:Ob}{t:aj}(h:b≠A.next):ax tb (A.alloc y).get t (pw b o)=ax tb A.get t (pw b o):=by
 unfold ax;simp only[c9 h]
variable {l:List O}
def qbG{e t:aj}{v:O}(hv:l[o]?=U v)(ht:(tb.aB t).map cW=U af):ax tb (A.alloc (ae e l)).get t (.pointer (U ⟨A.next,o,Y⟩))=.ok v:=by
 cases hu:tb.aB t with
 |none=>rw[hu]at ht;cases ht
 |some d=>rw[hu]at ht;exact c7 hu (by simpa using ht) (sV A e l) hv
def AI{e t:aj}(hs:aY tb t=.ok (Z l))(ht:(tb.aB t).map cW=U aa):ax tb (A.alloc (ae e l)).get t (.pointer (U ⟨A.next,0,Y⟩))=.ok (.agg ⟨l⟩):=by
 cases hu:tb.aB t with
 |none=>rw[hu]at ht;cases ht
 |some d=>rw[hu]at ht;exact bU hu (by simpa using ht) hs (sV A e l)
def ep{t e:aj}{l':List O}{v:O}(hs:aY tb t=.ok (Z l'))(hc:v.cells.toList=l')(hl:Z l'=Z l)(h0:l≠ [])(h1:∀v∈l',bI v=aa):
 bX tb (A.alloc (ae e l)) t (.pointer (U ⟨A.next,0,Y⟩)) v=.ok (A.alloc (ae e l')):=by
 have hg:(A.alloc (ae e l)).get A.next=U (.cells e (.var (Z l)) 0 (T.bP .e 0 l)):=cR _ _
 unfold bX;simp only[hs,R.aT,hc];rw[show aL (Z l') (Z l')=aa by rw[pS],aI];unfold kQ;have h0':l'≠ []:=λ h=>h0 (eQ.1 (by rw[<-hl,h];rfl))
 have hst:=GF (AU (.var (Z l))) l' 0 (T.bP .e 0 l) h1 λ j hj=>.inl ⟨l[j]'(by omega),by rw[T.oO,aC (by omega)];simp[aV (show j<Z l by omega)]⟩
 cases l' with
 |nil=>exact aZ rfl h0'
 |cons y l'=>
  simp only[hg,hst,R.aT];rw[T.Ry _ _ _ _ hl,S6];unfold ae;rw[hl]
def sS{t e:aj}{v:O}(hs:aY tb t=.ok 1)(hc:v.cells.toList=[v])(h1:bI v=aa)(ho:o<Z l):
 bX tb (A.alloc (ae e l)) t (pw A.next o) v=.ok (A.alloc (ae e (l.set o v))):=by
 have hg:(A.alloc (ae e l)).get A.next=U (.cells e (.var (Z l)) 0 (T.bP .e 0 l)):=cR _ _
 have hst:=GF (AU (.var (Z l))) [v] o (T.bP .e 0 l) (by simpa using h1) λ j hj=>.inl (by
  have:j=0:=by simpa using hj
  subst this;exact⟨l[o],by rw[T.oO,aC (by omega)];simp[aV ho]⟩)
 unfold bX;simp only[hs,R.aT,hc];show kQ _ _ [v]=_;unfold kQ;simp only[hg,hst,R.aT];have hp:=T.Rx l .e 0 o v ho;rw[dO]at hp;rw[T.iD,T.my,hp,S6];unfold ae;rw[dI]
end Go.Am
namespace Go.Proofs.YtdobfpkceacneaaGreatDoor.sto
open Go.Am
end Go.Proofs.YtdobfpkceacneaaGreatDoor.sto
namespace Go.Proofs.YtdobfpkceacneaaGreatDoor.sto
open Go.Am
variable {n:Nat}
def iz(h:n<18446744073709551616):dj .u64 (n:Int)=aa:=by
 show aM n (2^64)=aa;rw[bT];exact h
def cS(h:n<9223372036854775808):dj .i64 (n:Int)=aa:=by
 show aM n (2^63)=aa;rw[bT];exact h
def uR(h:n<256):dj .u8 (n:Int)=aa:=by
 show aM n 256=aa;rw[bT];exact h
def Bo{k:cY}(h:dj k (n:Int)=aa):eP k (n:Int)=(n:Int):=by unfold eP;rw[h];rfl
variable {tb:aO}{k':cY}
def ia{s d:aj}{k:cY}(hs:(tb.aB s).isSome=aa)(hd:tb.aB d=U (.int k'))(h:dj k' (n:Int)=aa):pB tb s d (.int k (n:Int))=.ok (.int k' (n:Int)):=by
 have e:pB tb s d (.int k (n:Int))=.ok (.int k' (eP k' (n:Int))):=by
  unfold pB;rw[hd];cases hq:tb.aB s with
  |none=>rw[hq]at hs;cases hs
  |some _=>rfl
 rw[e,Bo h]
def Yn{s d:aj}{k:cY}(hs:(tb.aB s).isSome=aa)(hd:tb.aB d=U (.int .u8)):pB tb s d (.int k (n:Int))=.ok (.int .u8 (n % 256:Nat)):=by
 have e:pB tb s d (.int k (n:Int))=.ok (.int .u8 (eP .u8 (n:Int))):=by
  unfold pB;rw[hd];cases hq:tb.aB s with
  |none=>rw[hq]at hs;cases hs
  |some _=>rfl
 rw[e,DW]
variable {b:Nat}
def fc{k:cY}{a:Nat}(h:dj k ((a+b:Nat):Int)=aa):bj .add k (a:Int) (b:Int)=.ok (.int k ((a+b:Nat):Int)):=by
 show R.ok (Value.int k (eP k ((a:Int)+(b:Int))))=_;rw[show(a:Int)+(b:Int)=((a+b:Nat):Int) by omega,Bo h]
def gS{k:cY}{a:Nat}(hb:b<=a)(h:dj k ((a-b:Nat):Int)=aa):bj .sub k (a:Int) (b:Int)=.ok (.int k ((a-b:Nat):Int)):=by
 show R.ok (Value.int k (eP k ((a:Int)-(b:Int))))=_;rw[show(a:Int)-(b:Int)=((a-b:Nat):Int) by omega,Bo h]
def Di{k:cY}{a:Nat}(h:dj k ((a*b:Nat):Int)=aa):bj .mul k (a:Int) (b:Int)=.ok (.int k ((a*b:Nat):Int)):=by
 show R.ok (Value.int k (eP k ((a:Int)*(b:Int))))=_;rw[show(a:Int)*(b:Int)=((a*b:Nat):Int) by simp,Bo h]
def qc5{a:Nat}(ha:a<18446744073709551616)(hb:b<18446744073709551616):bj .or .u64 (a:Int) (b:Int)=.ok (uN (a|||b)):=by
 show(bif dj .u64 (a:Int)&&dj .u64 (b:Int)then R.ok (Value.int .u64 (a|||b:Nat))else .no 11)=_;rw[iz ha,iz hb];rfl
def qhd{d:Option TypeDesc}{a:Nat}(h:b<64)(h2:a<<<b<18446744073709551616):iu .shl d (.int .u64 a) (.int k' (b:Int))=.ok (uN (a<<<b)):=by
 have e:iu .shl d (.int .u64 a) (.int k' (b:Int))=(bif aM b 64 then R.ok (Value.int .u64 (eP .u64 ((a<<<b:Nat):Int)))else .ok (.int .u64 0)):=rfl;have hb:aM b 64=aa:=by rw[bT];exact h
 rw[e,hb,aI,Bo (iz h2)]
def K0{d:Option TypeDesc}{a:Nat}(h:b<64):iu .shr d (.int .u64 a) (.int k' (b:Int))=.ok (uN (a>>>b)):=by
 have e:iu .shr d (.int .u64 a) (.int k' (b:Int))=.ok (.int .u64 (.ofNat (Nat.shiftRight a (bif aM b 64 then b else 64)))):=rfl;have hb:aM b 64=aa:=by rw[bT];exact h
 rw[e,hb,aI];rfl
def f_(n:Nat):Nat:=if n=0 then 0 else n.log2+1
def We{a:Nat}(h:2^a<=n):f_ n=a+f_ (n>>>a):=by
 have hn:n≠0:=by have:=yj a;omega
 have hd:n/2^a≠0:=by
  have:=(Nat.le_div_iff_mul_le (yj a)).2 (show 1*2^a<=n by omega);omega
 unfold f_;rw[uk,aq hn,aq hd];have h1:n.log2=a+(n/2^a).log2:=by
  apply Nat.le_antisymm
  .have:n.log2<a+(n/2^a).log2+1:=by
    rw[Eg hn,show a+(n/2^a).log2+1=((n/2^a).log2+1)+a by omega,BL];have:=(Eg hd).1 (yg _);exact(Hs (yj a)).1 this
   omega
  .rw[Nat.le_log2 hn,ye,BL];exact(Nat.le_div_iff_mul_le (yj a)).1 ((Nat.le_log2 hd).1 (aJ _))
 omega
def Pk{l:List UInt8}(hl:(aL (Z l) 256&&(jE 256).all λ i=>aL (l.getD i 0).toNat (f_ i))=aa)(h:n<256):uS bc 9 (ag l) (.int .u8 n)=.ok (bN (f_ n)):=by
 rw[dz]at hl;have e1:=dZ hl.1;rw[qX oe (by omega),dZ (ov.1 hl.2 n (List.mem_range.2 h))]
def MI(h:n<256):f_ n<256:=by
 unfold f_;split
 .omega
 .rename_i h0;have:=(Eg h0 (k:=8)).2 h;omega
def half(n a b:Nat)(h:n<2^(a+b)):∃x s,f_ n=s+f_ x/\x<2^max a b/\s<=a/\((x=n>>>a/\s=a/\2^a<=n)\/(x=n/\s=0/\¬2^a<=n)):=by
 by_cases ha:2^a<=n
 .refine⟨n>>>a,a,We ha,?_,aJ _,.inl ⟨rfl,rfl,ha⟩⟩;rw[uk];refine dc ((Hs (yj a)).2 (by rw[<-BL,ye b a];exact h)) (rI (by omega) (Nat.le_max_right a b))
 .exact⟨n,0,by omega,dc (by omega) (rI (by omega) (Nat.le_max_left a b)),a6 _,.inr ⟨rfl,rfl,ha⟩⟩
variable {A:Mem}
def qfB(n:Nat)(hn:n<18446744073709551616):az bc 227 [.int .u64 n] A (iN (f_ n)) A:=by
 obtain⟨x1,s1,e1,b1,m1,h1⟩:=half n 32 32 hn;obtain⟨x2,s2,e2,b2,m2,h2⟩:=half x1 16 16 b1;obtain⟨x3,s3,e3,b3,m3,h3⟩:=half x2 8 8 b2;have b3:x3<256:=b3;have e:f_ n=s1+s2+s3+f_ x3:=by omega
 have hb:=MI b3;have c1:=ia (tb:=bc) (s:=147) (d:=5) (k:=.u64) (n:=x3) (by rw[tY];rfl) oc (uR b3);have c2:=ia (tb:=bc) (s:=5) (d:=3) (k:=.u8) (n:=f_ x3) (by rw[oc];rfl) zw (cS (by omega));rw[e];clear e e1 e2 e3 b1 b2 hn m1 m2 m3;simp only[Nat.reducePow]at h1 h2 h3;rcases h1 with⟨rfl,rfl,h1⟩|⟨rfl,rfl,h1⟩<;>rcases h2 with⟨rfl,rfl,h2⟩|⟨rfl,rfl,h2⟩<;>rcases h3 with⟨rfl,rfl,h3⟩|⟨rfl,rfl,h3⟩
 all_goals
  refine cG 60 (b_ Tryz.func227) (by kernel_rfl) λ M=>?_
  simp(disch:=first|decide+kernel|omega)only[Tryz.f227,Aq,V,iZ,hZ,h1,h2,h3,c1,c2,Pk,K0,dO,dN]<;>rfl
def c6(n:Nat):Nat:=(f_ n+7)/8
def kz(n:Nat):Nat:=if n<248 then 1 else 1+c6 n
def dw(l:List UInt8):List O:=l.map gd
def jk(l:List UInt8):(dw l).length=Z l:=by simp[dw]
variable {c:Nat}
def MR(h:c<256):gd (.ofNat c)=.int .u8 c:=by
 show Value.int .u8 (cO (lZ c).toNat)=_;rw[HL h];rfl
def qg(n:Nat):Nat->List UInt8
 |0=>[]
 |i+1=>qg n i++[.ofNat (n>>>(8*i) % 256)]
def cZ(n:Nat):List UInt8:=if n<248 then [.ofNat n]else .ofNat (247+c6 n)::qg n (c6 n)
theorem y8(n:Nat):∀i,(qg n i).length=i
 |0=>rfl
 |i+1=>by unfold qg;rw[aU,y8 n i];rfl
def MH(h:n<18446744073709551616):f_ n<=64:=by
 unfold f_;split
 .omega
 .rename_i h0;have:=(Eg h0 (k:=64)).2 h;omega
def FU(h:n<18446744073709551616):c6 n<=8:=by have:=MH h;unfold c6;omega
def Ug:bc.aB 283=U (.array 9 5):=by kernel_rfl
def xH:aY bc 5=.ok 1:=by kernel_rfl
def qhi:aY bc 3=.ok 1:=by kernel_rfl
def Tg:aY bc 285=.ok 10:=by kernel_rfl
def UN:cX bc 285=.ok (.agg ⟨[.int .u8 0,.int .u8 0,.int .u8 0,.int .u8 0,.int .u8 0,.int .u8 0,.int .u8 0,.int .u8 0,.int .u8 0,.int .i64 0]⟩):=by kernel_rfl
def Jl:bM bc 285 (pw b 0) 0=.ok (pw b 0):=by kernel_rfl
def Oe:bM bc 285 (pw b 0) 1=.ok (pw b 9):=by kernel_rfl
variable {i:Nat}
def JM(h:i<9):dQ bc 283 (pw b 0) (.int .i64 i)=.ok (pw b i):=by
 have:=JH (b:=b) (o:=0) (k:=.i64) Ug xH h;rwa[dO]at this
def BP(l:List O):Prop:=Z l=10/\∀v∈l,bI v=aa
variable {l:List O}{o:Nat}
def DD{n:Int}(h:Z l=10)(ho:o<10):bX bc (A.alloc (ae 285 l)) 5 (pw A.next o) (.int .u8 n)=.ok (A.alloc (ae 285 (l.set o (.int .u8 n)))):=sS xH rfl rfl (by omega)
def mA{n:Int}(h:Z l=10):bX bc (A.alloc (ae 285 l)) 3 (pw A.next 9) (.int .i64 n)=.ok (A.alloc (ae 285 (l.set 9 (.int .i64 n)))):=sS qhi rfl rfl (by omega)
def FQ(h:Z l=10):ax bc (A.alloc (ae 285 l)).get 285 (pw A.next 0)=.ok (.agg ⟨l⟩):=AI (by rw[Tg,h]) (by kernel_rfl)
def Tv(h:BP l):bX bc (A.alloc (ae 285 l)) 285 (pw A.next 0) (.agg ⟨l⟩)=.ok (A.alloc (ae 285 l)):=ep (by rw[Tg,h.1]) rfl rfl (by intro e;have:=h.1;rw[e]at this;cases this) h.2
def gH(bs:List UInt8)(k:Nat)(n:Int):List O:=dw bs++fq k (.int .u8 0)++[.int .i64 n]
def jz(n:Nat):List O:=gH (cZ n) (9-kz n) (kz n:Nat)
variable {bs:List UInt8}{k:Nat}
def JS{w:Int}(hc:c<256):(gH bs (k+1) w).set (Z bs) (.int .u8 c)=gH (bs++[.ofNat c]) k w:=by
 unfold gH dw;rw[fY,List.map_singleton,MR hc,jD,BC _ _ (by simp),aR,gZ,List.replicate_succ];simp
def PM{w v:Int}(h:Z bs+k=9):(gH bs k w).set 9 (.int .i64 v)=gH bs k v:=by
 unfold gH;rw[BC _ _ (by simp[jk];omega)];simp[jk,h]
def AG{w:Int}(h:Z bs+k=9):BP (gH bs k w):=by
 refine⟨by simp[gH,jk];omega,λ v hv=>?_⟩;simp only[gH,dw,mI,dA,List.mem_replicate,ee]at hv;rcases hv with(⟨_,-,rfl⟩|⟨-,rfl⟩)|rfl<;>rfl
def mh:=cg qJ
def Iv:aH:=sub mh [1,1,1,1,0,1,0,0]
def Iu:qJ.body=U (.seq (sub mh [0]) (.seq (sub mh [1,0]) (.seq (sub mh [1,1,0]) (.seq (sub mh [1,1,1,0]) (.seq (.seq (sub mh [1,1,1,1,0,0]) (.block 0 (.loop Iv))) (.seq (sub mh [1,1,1,1,1,0]) (.seq (sub mh [1,1,1,1,1,1,0]) (sub mh [1,1,1,1,1,1,1])))))))):=by kernel_rfl
def U1(tb:aO)(fn:Func)(Q:O->Mem->Prop)(e:Ex)(s:St):Prop:=(e=.nrm\/e=.ret)/\s.d=[]/\∃v,(eC tb s.t s.m.get fn.results.toList).bind (λ vs=>.ok (oneOf vs))=.ok v/\Q v s.m
variable {fn:Func}
def c_{f:FuncId}{c:aH}{args:List O}{Q:O->Mem->Prop}(hf:tb.fn.get f=U fn)(hb:fn.body=U c)(ho:okF tb f fn args=aa)
 (h:W tb c ⟨T.bP .e 0 args,fn.ntmps,[],A,Y⟩ (U1 tb fn Q)):∃v A',az tb f args A v A'/\Q v A':=by
 obtain⟨-,hn,hnm,hk⟩:=Kf ho;refine mc hf hb hn hnm hk (h.mono λ e s hs=>?_);obtain⟨h1,h2,v,h3,h4⟩:=hs;rw[h2];cases hr:eC tb s.t s.m.get fn.results.toList with
 |no _=>rw[hr]at h3;cases h3
 |ok vs=>
  rw[hr]at h3;cases h3;exact⟨h1,s.m,vs,rfl,hr,h4⟩
def Ss(hn:n<18446744073709551616):∃v A',az bc 181 [.int .u64 n] A v A'/\v=.agg ⟨jz n⟩:=by
 refine c_ (b_ Tryz.func181) Iu (by kernel_rfl) ?_;have z10:BP (gH [] 9 0):=AG rfl;apply W.q
 .intro M;simp(disch:=omega)only[mh,qJ,Aq,V,UN,aX];rfl
 rw[show ae 285 [Value.int .u8 0,.int .u8 0,.int .u8 0,.int .u8 0,.int .u8 0,.int .u8 0,.int .u8 0,.int .u8 0,.int .u8 0,.int .i64 0]=ae 285 (gH [] 9 0)from rfl];have zl:=z10.1;apply W.seq;by_cases h:n<248
 .have c1:=ia (k:=.u64) (n:=n) (by rw[tY];rfl) oc (uR (by omega));have p1:(gH [] 9 0).set 0 (.int .u8 n)=gH [.ofNat n] 8 0:=JS (bs:=[]) (k:=8) (by omega);have p2:=PM (bs:=[.ofNat n]) (k:=8) (w:=0) (v:=((1:Nat):Int)) rfl;have t1:BP (gH ([.ofNat n]) 8 0):=AG rfl;have t2:BP (gH ([.ofNat n]) 8 ((1:Nat):Int)):=AG rfl;have e1:=t1.1;have e2:=t2.1;have e3:=Tv (A:=A) t2;have hL:gH ([.ofNat n]) 8 ((1:Nat):Int)=jz n:=by unfold jz cZ kz;rw[aC h,aC h]
  apply W.run 20
  .intro M;simp(disch:=first|decide+kernel|omega)only[mh,qJ,Aq,V,h,c1,Jl,Oe,JM,DD,mA,zl,e1,e2,FQ,e3,p1,p2];rfl
  exact⟨by simp,rfl,_,(by simp only[qJ,Aq,V,FQ,e2]<;>rfl),by rw[hL]⟩
 .obtain⟨g,hg⟩:=qfB (A:=A.alloc (ae 285 (gH [] 9 0))) n hn;have hm:=FU hn;have hb:=MH hn;have q1:f_ n+8-1=f_ n+7:=by omega
  have c1:=ia (tb:=bc) (s:=3) (d:=5) (k:=.i64) (n:=247+c6 n) (by rw[zw];rfl) oc (uR (by omega));have a1:bj .add .i64 ((247:Nat):Int) ((c6 n:Nat):Int)=.ok (iN (247+c6 n)):=fc (cS (by omega));have p1:(gH [] 9 0).set 0 (bN (247+c6 n))=gH [.ofNat (247+c6 n)] 8 0:=JS (bs:=[]) (k:=8) (by omega);apply W.run 20
  .intro M;simp(disch:=first|decide+kernel|omega)only[mh,qJ,Aq,V,h];rfl
  apply W.qG (g)
  .intro M hM;simp(disch:=first|decide+kernel|omega)only[mh,qJ,Aq,V,hg,gS,cS,q1];rfl
  rw[show(f_ n+7)/8=c6 n from rfl];apply W.q
  .intro M;simp(disch:=first|decide+kernel|omega)only[mh,qJ,Aq,V,a1,c1,Jl,JM,DD,zl,p1];rfl
  apply W.seq;apply W.q
  .intro M;simp(disch:=first|decide+kernel|omega)only[mh,qJ,Aq,V];rfl
  apply W.block;have hbl:∀i,(lZ (247+c6 n)::qg n i).length=1+i:=λ i=>by rw[cd,y8];omega
  refine W.up (c6 n) (λ i t D=>D=A.alloc (ae 285 (gH (.ofNat (247+c6 n)::qg n i) (8-i) 0))/\Sl t [(0,.int .u64 n),(2,pw A.next 0),(3,iN (c6 n)),(23,iN (c6 n)),(24,.int .i64 i)]) ?_ (a6 _) ⟨rfl,?_⟩
  .rintro i t D hi ⟨rfl,g0,g2,g3,g23,g24,-⟩;have z2:=(AG (w:=0) (show(lZ (247+c6 n)::qg n i).length+(8-i)=9 by rw[hbl];omega)).1;by_cases hlt:i<c6 n
   .have m1:bj .mul .i64 ((8:Nat):Int) ((i:Nat):Int)=.ok (iN (8*i)):=Di (cS (by omega));have a2:bj .add .i64 ((1:Nat):Int) ((i:Nat):Int)=.ok (iN (1+i)):=fc (cS (by omega));have c2:=Yn (tb:=bc) (s:=147) (d:=5) (k:=.u64) (n:=n>>>(8*i)) (by rw[tY];rfl) oc;have p2:=JS (bs:=.ofNat (247+c6 n)::qg n i) (k:=8-(i+1)) (c:=n>>>(8*i) % 256) (w:=0) (by omega);rw[hbl,show 8-(i+1)+1=8-i by omega]at p2;apply W.run 20
    .intro M;simp(disch:=first|decide+kernel|omega)only[Iv,mh,qJ,Aq,V,g0,g2,g23,g24,hlt,m1,a2,c2,K0,Jl,JM,DD,z2,p2];rfl
    refine⟨hlt,_,_,rfl,rfl,?_⟩;simp only[Sq,V,ak,g0,g2,g3,g23]
   .have hin:i=c6 n:=by omega
    subst hin;have a2:bj .add .i64 ((1:Nat):Int) ((c6 n:Nat):Int)=.ok (iN (1+c6 n)):=fc (cS (by omega));have h9:(lZ (247+c6 n)::qg n (c6 n)).length+(8-c6 n)=9:=by rw[hbl];omega
    have p3:=PM (w:=0) (v:=((1+c6 n:Nat):Int)) h9;have t3:=AG (w:=((1+c6 n:Nat):Int)) h9;have e3:=Tv (A:=A) t3;have z3:=t3.1;have hL:gH (.ofNat (247+c6 n)::qg n (c6 n)) (8-c6 n) ((1+c6 n:Nat):Int)=jz n:=by unfold jz cZ kz;rw[aq h,aq h,show 9-(1+c6 n)=8-c6 n by omega]
    apply W.run 20
    .intro M;simp(disch:=first|decide+kernel|omega)only[Iv,mh,qJ,Aq,V,g23,g24,hlt];rfl
    apply W.run 40
    .intro M;simp(disch:=first|decide+kernel|omega)only[mh,qJ,Aq,V,g2,g3,a2,Oe,mA,z2,p3,FQ,z3,e3];rfl
    exact⟨by simp,rfl,_,(by simp only[qJ,Aq,V,g2,FQ,z3]<;>rfl),by rw[hL]⟩
  .simp only[Sq,V,ak]
def F1(n:Nat):(cZ n).length=kz n:=by
 unfold cZ kz;split
 .rfl
 .rw[cd,y8];omega
def PS(hn:n<18446744073709551616):kz n<=9:=by
 have:=FU hn;unfold kz;split<;>omega
def PL(hn:n<18446744073709551616):(jz n)[9]?=U (iN (kz n)):=by
 have:=PS hn;have e:9=(dw (cZ n)++fq (9-kz n) (Value.int .u8 0)).length:=by simp[jk,F1];omega
 unfold jz gH;rw[ez (by omega),<-e];rfl
def qgk(hn:n<18446744073709551616):∃A',az bc 279 [.int .u64 n] A (iN (kz n)) A':=by
 obtain⟨v,A',⟨g,hg⟩,rfl⟩:=Ss (A:=A) hn;have h2:=PL hn;generalize jz n=l at h2 hg;have f1:Au bc 285 (.agg ⟨l⟩) 1=.ok (iN (kz n)):=by
  have e:Au bc 285 (.agg ⟨l⟩) 1=nS bc 3 l 9:=by kernel_rfl
  rw[e];exact F_ zw rfl h2
 refine⟨A',?_⟩;refine bQ (g) 60 (b_ Tryz.func279) (by kernel_rfl) λ M hM=>?_
 simp(disch:=omega)only[Tryz.f279,Aq,V,hg,f1]<;>rfl
def mS(s:List UInt8)(a:Nat):Nat->Nat
 |0=>0
 |i+1=>mS s a i|||((s.getD (a+1+i) 0).toNat<<<(8*i))
theorem Jz(s:List UInt8)(a:Nat):∀i,mS s a i<2^(8*i)
 |0=>by simp[mS]
 |i+1=>by
  unfold mS;refine Nat.or_lt_two_pow (dc (Jz s a i) (rI (by omega) (by omega))) ?_;rw[Hw,show 8*(i+1)=8+8*i by omega,BL];exact Nat.mul_lt_mul_of_pos_right (s.getD (a+1+i) 0).toNat_lt (yj _)
def qd(s:List UInt8)(a:Nat):Nat×Nat×Nat:=
 if Z s<=a then(0,a,3)else if(s.getD a 0).toNat<248 then((s.getD a 0).toNat,a+1,0)
 else if Z s-a<=(s.getD a 0).toNat-247 then(0,a,3)
 else if kz (mS s a ((s.getD a 0).toNat-247))=1+((s.getD a 0).toNat-247)then(mS s a ((s.getD a 0).toNat-247),a+1+((s.getD a 0).toNat-247),0)else(0,a,5)
def uQ(p:Nat×Nat×Nat):O:=.tuple ⟨[.int .u64 p.1,.int .i64 p.2.1,.int .i64 p.2.2]⟩
def hY:=cg jH
def Ij:aH:=sub hY [1,1,1,1,1,1,0,1,0,0]
def Ii:jH.body=U (.seq (sub hY [0]) (.seq (sub hY [1,0]) (.seq (sub hY [1,1,0]) (.seq (sub hY [1,1,1,0]) (.seq (sub hY [1,1,1,1,0]) (.seq (sub hY [1,1,1,1,1,0]) (.seq (.seq (sub hY [1,1,1,1,1,1,0,0]) (.block 0 (.loop Ij))) (.seq (sub hY [1,1,1,1,1,1,1,0]) (.seq (sub hY [1,1,1,1,1,1,1,1,0]) (sub hY [1,1,1,1,1,1,1,1,1])))))))))):=by kernel_rfl
def run_get{s:List UInt8}{a:Nat}(hs:Z s<1000000)(ha:a<=Z s):∃v A',az bc 254 [ag s,.int .i64 a] A v A'/\v=uQ (qd s a):=by
 refine c_ (b_ Tryz.func254) Ii (by kernel_rfl) ?_;have hl:=lK (l:=s) oe;apply W.q
 .intro M;simp(config:={maxSteps:=4000000})(disch:=first|decide+kernel|omega|simp only[Wq,V])only[hY,jH,Aq,au,reduceIte,V,ak];rfl
 apply W.seq;by_cases h1:Z s<=a
 .apply W.run 20
  .intro M;simp(config:={maxSteps:=4000000})(disch:=first|decide+kernel|omega|simp only[Wq,V])only[hY,jH,Aq,au,reduceIte,V,ak,hl,iZ,hZ,h1];rfl
  exact⟨by simp,rfl,_,(by simp only[jH,Aq,au,reduceIte,V,ak]<;>rfl),by unfold qd;rw[aC h1];rfl⟩
 have hix:=qX (t:=9) (kd:=.i64) oe (show a<Z s by omega);have hf:=(s.getD a 0).toNat_lt;generalize hfd:(s.getD a 0).toNat=f at hix hf;apply W.run 20
 .intro M;simp(config:={maxSteps:=4000000})(disch:=first|decide+kernel|omega|simp only[Wq,V])only[hY,jH,Aq,au,reduceIte,V,ak,hl,iZ,hZ,h1];rfl
 apply W.q
 .intro M;simp(disch:=first|decide+kernel|omega)only[hY,jH,Aq,V,hix];rfl
 apply W.seq;by_cases h2:f<248
 .have cv:=ia (tb:=bc) (s:=5) (d:=147) (k:=.u8) (n:=f) (by rw[oc];rfl) tY (iz (by omega));have a1:bj .add .i64 ((a:Nat):Int) ((1:Nat):Int)=.ok (iN (a+1)):=fc (cS (by omega));apply W.run 20
  .intro M;simp(disch:=first|decide+kernel|omega)only[hY,jH,Aq,V,h2,cv,a1];rfl
  exact⟨by simp,rfl,_,(by simp only[jH,Aq,V]<;>rfl),by unfold qd;rw[aq h1,hfd,aC h2];rfl⟩
 have cv:=ia (tb:=bc) (s:=5) (d:=3) (k:=.u8) (n:=f) (by rw[oc];rfl) zw (cS (by omega));have s1:bj .sub .i64 ((f:Nat):Int) ((248:Nat):Int)=.ok (iN (f-248)):=gS (by omega) (cS (by omega));have a1:bj .add .i64 ((f-248:Nat):Int) ((1:Nat):Int)=.ok (iN (f-247)):=by rw[fc (cS (by omega)),show f-248+1=f-247 by omega]
 have s2:bj .sub .i64 ((Z s:Nat):Int) ((a:Nat):Int)=.ok (iN (Z s-a)):=gS (by omega) (cS (by omega));apply W.run 20
 .intro M;simp(disch:=first|decide+kernel|omega)only[hY,jH,Aq,V,h2];rfl
 apply W.q
 .intro M;simp(disch:=first|decide+kernel|omega)only[hY,jH,Aq,V,cv,s1,a1];rfl
 generalize hm:f-247=m;have hm8:m<=8:=by omega
 apply W.seq;by_cases h3:Z s-a<=m
 .apply W.run 20
  .intro M;simp(disch:=first|decide+kernel|omega)only[hY,jH,Aq,V,hl,s2,u6,hZ,h3];rfl
  exact⟨by simp,rfl,_,(by simp only[jH,Aq,V]<;>rfl),by unfold qd;rw[aq h1,hfd,aq h2,hm,aC h3];rfl⟩
 apply W.run 20
 .intro M;simp(disch:=first|decide+kernel|omega)only[hY,jH,Aq,V,hl,s2,u6,hZ,h3];rfl
 apply W.seq;apply W.q
 .intro M;simp(disch:=first|decide+kernel|omega)only[hY,jH,Aq,V];rfl
 apply W.block;refine W.up m (λ i t D=>D=A/\Sl t [(0,ag s),(1,.int .i64 a),(4,uN (mS s a i)),(8,.int .i64 m),(39,.int .i64 m),(40,.int .i64 i)]) ?_ (a6 _) ⟨rfl,?_⟩
 .rintro i t D hi ⟨rfl,g0,g1,g4,g8,g39,g40,-⟩;have hlt2:=Jz s a i;have hp:2^(8*i)<=2^64:=rI (by omega) (by omega);by_cases hlt:i<m
  .have hx:=qX (t:=9) (kd:=.i64) oe (show a+1+i<Z s by omega);have hc:=(s.getD (a+1+i) 0).toNat_lt;have hlt3:=Jz s a (i+1);have hp3:2^(8*(i+1))<=2^64:=rI (by omega) (by omega);have e3:mS s a (i+1)=mS s a i|||((s.getD (a+1+i) 0).toNat<<<(8*i)):=rfl;have hsh:(s.getD (a+1+i) 0).toNat<<<(8*i)<18446744073709551616:=by
    refine dc ?_ hp3;rw[Hw,show 8*(i+1)=8+8*i by omega,BL];exact Nat.mul_lt_mul_of_pos_right hc (yj _)
   generalize (s.getD (a+1+i) 0).toNat=c at hx hc hsh e3;have cv2:=ia (tb:=bc) (s:=5) (d:=147) (k:=.u8) (n:=c) (by rw[oc];rfl) tY (iz (by omega));have m1:bj .mul .i64 ((8:Nat):Int) ((i:Nat):Int)=.ok (iN (8*i)):=Di (cS (by omega));have a2:bj .add .i64 ((a:Nat):Int) ((1:Nat):Int)=.ok (iN (a+1)):=fc (cS (by omega));have a3:bj .add .i64 ((a+1:Nat):Int) ((i:Nat):Int)=.ok (iN (a+1+i)):=fc (cS (by omega));have sh:=λ d k'=>qhd (d:=d) (k':=k') (a:=c) (b:=8*i) (by omega) hsh
   have o1:=qc5 (a:=mS s a i) (b:=c<<<(8*i)) (by omega) hsh;apply W.run 20
   .intro M;simp(disch:=first|decide+kernel|omega)only[Ij,hY,jH,Aq,V,g0,g1,g4,g39,g40,hlt,hx,cv2,m1,a2,a3,sh,o1];rfl
   refine⟨hlt,_,_,rfl,rfl,?_⟩;simp only[Sq,V,ak,g0,g1,g8,g39,e3]
  .have hin:i=m:=by omega
   subst hin;obtain⟨A',g,hg⟩:=qgk (A:=D) (n:=mS s a i) (by omega);have a2:bj .add .i64 ((1:Nat):Int) ((i:Nat):Int)=.ok (iN (1+i)):=fc (cS (by omega));have a3:bj .add .i64 ((a:Nat):Int) ((1:Nat):Int)=.ok (iN (a+1)):=fc (cS (by omega));have a4:bj .add .i64 ((a+1:Nat):Int) ((i:Nat):Int)=.ok (iN (a+1+i)):=fc (cS (by omega));apply W.run 20
   .intro M;simp(disch:=first|decide+kernel|omega)only[Ij,hY,jH,Aq,V,g39,g40,hlt];rfl
   apply W.seq;by_cases h4:kz (mS s a i)=1+i
   .apply W.ct (g) 20
    .intro M hM;simp(disch:=first|decide+kernel|omega)only[hY,jH,Aq,V,g4,g8,hg,a2,h4];rfl
    apply W.run 20
    .intro M;simp(disch:=first|decide+kernel|omega)only[hY,jH,Aq,V,g1,g4,g8,a3,a4];rfl
    exact⟨by simp,rfl,_,(by simp only[jH,Aq,V]<;>rfl),by unfold qd;rw[aq h1,hfd,aq h2,hm,aq h3,aC h4];rfl⟩
   .apply W.ct (g) 20
    .intro M hM;simp(disch:=first|decide+kernel|omega)only[hY,jH,Aq,V,g1,g4,g8,hg,a2,h4];rfl
    exact⟨by simp,rfl,_,(by simp only[jH,Aq,V]<;>rfl),by unfold qd;rw[aq h1,hfd,aq h2,hm,aq h3,aq h4];rfl⟩
 .simp only[Sq,V,ak,mS]
def DP:bc.aB 123=U (.slice 5):=by kernel_rfl
def LK:eR bc 5=.ok (1,[.int .u8 0]):=by kernel_rfl
def Lq:∃i,bc.ty.get 5=U i/\0<i.bytes/\i.bytes<=65536:=by
 have h:(bc.ty.get 5).map (λ i=>aM 0 i.bytes&&au i.bytes 65536)=U aa:=by kernel_rfl
 cases hq:bc.ty.get 5 with
 |none=>rw[hq]at h;cases h
 |some i=>
  rw[hq]at h;simp only[fZ,eM,dz,bT]at h;exact⟨i,rfl,h.1,fQ h.2⟩
def K_{l:List UInt8}{x:O}(h:eY A 5 b (dw l) x):gN bc A.get 123 9 x=.ok (ag l):=by
 rcases h with⟨rfl,hl⟩|⟨k,c,rfl,h4,h5,h6⟩
 .have:l=[]:=by cases l with
   |nil=>rfl
   |cons _ _=>simp[dw]at hl
  subst this;unfold gN;simp only[DP,oe,oc];rfl
 .have hb:D8 A b 5 k l:=by
   obtain⟨cs,e1,e2⟩:=h5;exact⟨cs,e1,λ i hi=>e2 i (by rw[jk];exact hi)⟩
  rw[jk];exact TG DP oe oc hb
variable {dst:Option Tmp}{pos:String}{after:Array Edge}
def qcJ{ih:aH->St->R (Ex×St)}{ty:aj}{g:Option (Nat×Bool)}{s:St}{k:St->R (Ex×St)}(x:bA):bB bc ih {dst,op:=.convert 123 9 x,type:=ty,pos,after,guard:=g} s k=(ev s.t x).bind λ x=>(gN bc s.m.get 123 9 x).bind λ v=>bS s dst v k:=by
 rw[uY (hc:=by kernel_rfl) (hi:=rfl)];simp only[eB,R.ec]
def qhr{D:Mem}(hc:c<256):eY (D.alloc (ae 5 [.int .u8 c])) 5 D.next (dw [.ofNat c]) (.slice (U ⟨D.next,0,Y⟩) 1 2):=by
 have e:dw [lZ c]=[.int .u8 c]:=by unfold dw;rw[List.map_singleton,MR hc]
 rw[e];exact .inr ⟨.var 1,2,rfl,by rw[aA];omega,sV D 5 [.int .u8 c],.inl rfl⟩
def Rb{a:Nat}(h:a<18446744073709551616)(hb:0<b):bj .quo .u64 (a:Int) (b:Int)=.ok (uN (a/b)):=by
 obtain⟨c,rfl⟩:∃c,b=c+1:=⟨b-1,by omega⟩;show R.ok (Value.int .u64 (eP .u64 ((a/(c+1):Nat):Int)))=_;rw[Bo (iz (pU (Nat.div_le_self _ _) h))]
end Go.Proofs.YtdobfpkceacneaaGreatDoor.sto
namespace Go.Am
theorem Cr:∀x,cJ x x=af
 | []=>rfl
 |a::x=>by
  have:aM a.toNat a.toNat=af:=by
   cases h:aM a.toNat a.toNat with
   |false=>rfl
   |true=>rw[bT]at h;omega
  simp[cJ,this,Cr x]
theorem H5:∀x y z,cJ x y=aa->cJ y z=aa->cJ x z=aa
 |_,[],_,h,_=>by simp[cJ]at h
 |_,_::_,[],_,h=>by simp[cJ]at h
 | [],b::y,c::z,_,_=>rfl
 |a::x,b::y,c::z,h1,h2=>by
  simp only[cJ,D7,dz,bT,pS]at h1 h2⊢;rcases h1 with h1|⟨h1,h1'⟩
  .rcases h2 with h2|⟨h2,_⟩
   .left;omega
   .left;omega
  .rcases h2 with h2|⟨h2,h2'⟩
   .left;omega
   .exact .inr ⟨by omega,H5 x y z h1' h2'⟩
theorem H6:∀x y,cJ x y=af->cJ y x=af->x=y
 | [],[],_,_=>rfl
 | [],_::_,h,_=>by simp[cJ]at h
 |_::_,[],_,h=>by simp[cJ]at h
 |a::x,b::y,h1,h2=>by
  simp only[cJ,Bs,Bool.and_eq_false_iff]at h1 h2;have e:a.toNat=b.toNat:=by
   rcases zX a.toNat b.toNat with h|h|h
   .have:=h1.1;rw[show aM a.toNat b.toNat=aa by rw[bT];exact h]at this;cases this
   .exact h
   .have:=h2.1;rw[show aM b.toNat a.toNat=aa by rw[bT];exact h]at this;cases this
  have e1:cJ x y=af:=by
   rcases h1.2 with h|h
   .rw[e]at h;simp at h
   .exact h
  have e2:cJ y x=af:=by
   rcases h2.2 with h|h
   .rw[e]at h;simp at h
   .exact h
  rw[H6 x y e1 e2,yI.1 e]
end Go.Am
namespace Go.Mdl
open Go.Am
structure aD where
 word:List UInt8
 weight:Nat
 gone:Bool
deriving DecidableEq
abbrev lt (a b:List UInt8):Prop:=cJ a b=aa
def FW(a:List UInt8):¬lt a a:=by unfold lt;rw[Cr];simp
def uV{a b c:List UInt8}(h:lt a b)(k:lt b c):lt a c:=H5 _ _ _ h k
def AJ{a b:List UInt8}(h:¬lt a b)(k:¬lt b a):a=b:=H6 _ _ (by simpa[lt]using h) (by simpa[lt]using k)
def gp:List aD->Prop
 | []=>True
 |x::l=>(∀y∈l,lt x.word y.word)/\gp l
def lM(e:aD):List aD->List aD
 | []=>[e]
 |x::l=>if lt x.word e.word then x::lM e l else if x.word=e.word then e::l else e::x::l
variable {e:aD}
theorem Kg:∀{l:List aD} {y:aD},y∈lM e l->y=e\/y∈l
 | [],y,h=>by simp[lM]at h;exact .inl h
 |x::l,y,h=>by
  unfold lM at h;split at h
  .rcases cC.1 h with rfl|h
   .exact .inr cM
   .rcases Kg h with h|h
    .exact .inl h
    .exact .inr (cU _ h)
  .split at h
   .rcases cC.1 h with h|h
    .exact .inl h
    .exact .inr (cU _ h)
   .rcases cC.1 h with h|h
    .exact .inl h
    .exact .inr h
theorem Qy:∀{l:List aD},gp l->gp (lM e l)
 | [],_=>⟨λ y hy=>(by cases hy),trivial⟩
 |x::l,h=>by
  unfold lM;split
  .rename_i hx;refine⟨λ y hy=>?_,Qy h.2⟩;rcases Kg hy with rfl|hy
   .exact hx
   .exact h.1 y hy
  .split
   .rename_i hx he;exact⟨λ y hy=>by rw[<-he];exact h.1 y hy,h.2⟩
   .rename_i hx he;have hex:lt e.word x.word:=xT λ hn=>he (AJ hx hn)
    refine⟨λ y hy=>?_,h⟩;rcases cC.1 hy with rfl|hy
    .exact hex
    .exact uV hex (h.1 y hy)
def live(l:List aD):List aD:=l.filter λ e=>!e.gone
def find(w:List UInt8)(l:List aD):Option aD:=l.find? λ e=>decide (e.word=w)
end Go.Mdl
namespace Go.Sto
open Go.Am Go.Mdl
structure cK where
 byte:UInt8
 out:Nat
 to:Nat
deriving DecidableEq
structure ay where
 fin:Bool
 out:Nat
 arcs:List cK
deriving DecidableEq
def val(e:aD):Nat:=if e.gone then 0 else e.weight+1
def least:List aD->Nat
 | []=>0
 |x::l=>l.foldl (λ n e=>min n (val e)) (val x)
def gk(M:List ay)(s:ay):List ay×Nat:=
 match M.findIdx? (λ x=>decide (x=s))with
 |some i=>(M,i)
 |none=>(M++[s],Z M)
def a7(d:Nat)(e:aD):Option UInt8:=e.word[d]?
def dG(rec:List aD->Nat->List ay->List ay×Nat)(d less:Nat):List aD->List cK->List ay->List ay×List cK
 | [],qjX,M=>(M,qjX)
 |e::r,qjX,M=>
  if a7 d e=Y\/(qjX.getLast?).map (·.byte)=a7 d e then dG rec d less r qjX M
  else
   dG rec d less r (qjX++[⟨(a7 d e).getD 0,least ((e::r).filter λ x=>decide (a7 d x=a7 d e))-less,(rec ((e::r).filter λ x=>decide (a7 d x=a7 d e)) (least ((e::r).filter λ x=>decide (a7 d x=a7 d e))) M).2⟩])
    (rec ((e::r).filter λ x=>decide (a7 d x=a7 d e)) (least ((e::r).filter λ x=>decide (a7 d x=a7 d e))) M).1
def gQ(d less:Nat)(l:List aD):Bool×Nat:=l.foldl (λ s e=>if a7 d e=Y then(aa,val e-less)else s) (af,0)
def fe:Nat->List aD->Nat->Nat->List ay->List ay×Nat
 |0,_,_,_,M=>(M,0)
 |f+1,l,d,less,M=>
  gk (dG (λ own n M=>fe f own (d+1) n M) d less l [] M).1 ⟨(gQ d less l).1,(gQ d less l).2,(dG (λ own n M=>fe f own (d+1) n M) d less l [] M).2⟩
def vM(M:List ay):Nat->Nat->List (List UInt8×Nat)
 |0,_=>[]
 |k+1,i=>match M[i]? with
  |none=>[]
  |some s=>(if s.fin then [([],s.out)]else [])++s.arcs.flatMap λ a=>(vM M k a.to).map λ w=>(a.byte::w.1,a.out+w.2)
def AR(i:Nat)(s:ay):Prop:=(s.fin=af->s.out=0)/\(s.arcs.map (·.byte)).Pairwise (·<·)/\(∀a∈s.arcs,a.to<i)/\(s.fin=aa\/s.arcs≠ [])/\((s.fin=aa/\s.out=0)\/∃a∈s.arcs,a.out=0)
def eF(M:List ay):Prop:=∀i s,M[i]?=U s->AR i s
theorem CU{α β:Type}{f g:α->List β}:∀{l:List α},(∀a∈l,f a=g a)->l.flatMap f=l.flatMap g
 | [],_=>rfl
 |x::l,h=>by rw[j',j',h x cM,CU λ a ha=>h a (cU _ ha)]
variable {M:List ay}{i:Nat}
def Rr{M':List ay}(h:M<+:M')(hi:i<Z M):M'[i]?=M[i]?:=by
 obtain⟨t,rfl⟩:=h;rw[eG hi]
theorem UF{M':List ay}(g:eF M)(h:M<+:M'):∀k i,i<Z M->vM M' k i=vM M k i
 |0,_,_=>rfl
 |k+1,i,hi=>by
  unfold vM;rw[Rr h hi];have hs:M[i]?=U M[i]:=aV hi;rw[hs];simp only
  congr 1;refine CU λ a ha=>?_
  rw[UF g h k a.to (Nat.lt_trans ((g i _ hs).2.2.1 a ha) hi)]
def qji(g:eF M):∀i k,i<k->vM M k i=vM M (i+1) i:=by
 intro i
 induction i using yi with
 |ind i ih=>
  intro k hk;obtain⟨k',rfl⟩:∃k',k=k'+1:=⟨k-1,by omega⟩;unfold vM;cases hs:M[i]? with
  |none=>rfl
  |some s=>
   simp only
   congr 1;refine CU λ a ha=>?_
   have ht:=(g i s hs).2.2.1 a ha;rw[ih a.to ht k' (by omega),ih a.to ht i ht]
def ws(M:List ay)(i:Nat):List (List UInt8×Nat):=vM M (i+1) i
def ir(M:List ay)(a:cK):List (List UInt8×Nat):=(ws M a.to).map λ w=>(a.byte::w.1,a.out+w.2)
def rp(g:eF M){s:ay}(h:M[i]?=U s):ws M i=(if s.fin then [([],s.out)]else [])++s.arcs.flatMap (ir M):=by
 unfold ws;rw[vM,h];simp only
 congr 1;refine CU λ a ha=>?_
 unfold ir ws;rw[qji g a.to i ((g i s h).2.2.1 a ha)]
def LG{M':List ay}(g:eF M)(h:M<+:M')(hi:i<Z M):ws M' i=ws M i:=UF g h _ _ hi
def Good(M:List ay):Prop:=eF M/\M.Nodup/\∀i,i<Z M->∀w∈ws M i,w.2<=4294967296
def oh(M:List ay):Nat->Nat->Nat->Option Nat
 |0,_,_=>Y
 |k+1,i,left=>match M[i]? with
  |none=>Y
  |some s=>(s.arcs.foldl (λ o a=>o.bind λ L=>if L<=a.to then oh M k a.to L else U L) (U left)).bind λ L=>if i=L then U (L+1)else Y
def mZ(M:List ay)(k:Nat)(o:Option Nat)(a:cK):Option Nat:=o.bind λ L=>if L<=a.to then oh M k a.to L else U L
theorem fold_congr{α β:Type}{f g:β->α->β}:∀{l:List α} {b:β},(∀a∈l,∀b,f b a=g b a)->l.foldl f b=l.foldl g b
 | [],_,_=>rfl
 |x::l,b,h=>by rw[mG,mG,h x cM,fold_congr λ a ha=>h a (cU _ ha)]
variable {k:Nat}
def GW{left:Nat}{s:ay}(h:M[i]?=U s):oh M (k+1) i left=(s.arcs.foldl (mZ M k) (U left)).bind λ L=>if i=L then U (L+1)else Y:=by
 rw[oh,h];rfl
theorem LA{M':List ay}(g:eF M)(h:M<+:M'):∀k i left,i<Z M->oh M' k i left=oh M k i left
 |0,_,_,_=>rfl
 |k+1,i,left,hi=>by
  have hs:M[i]?=U M[i]:=aV hi;rw[GW hs,GW ((Rr h hi).trans hs)];congr 1;refine fold_congr λ a ha o=>?_
  unfold mZ;congr 1;funext L;rw[LA g h k a.to L (Nat.lt_trans ((g i _ hs).2.2.1 a ha) hi)]
def Qr{s:ay}(h:M.findIdx? (λ x=>decide (x=s))=U i):gk M s=(M,i):=by unfold gk;rw[h]
def Qt{s:ay}(h:M.findIdx? (λ x=>decide (x=s))=Y):gk M s=(M++[s],Z M):=by unfold gk;rw[h]
def Pf{s:ay}(h:M.findIdx? (λ x=>decide (x=s))=U i):M[i]?=U s:=by
 obtain⟨hi,hp,-⟩:=Hl.1 h;rw[aV hi];simpa using hp
def Pe{s:ay}(h:M.findIdx? (λ x=>decide (x=s))=Y):s∉M:=by
 intro hs;have:=Hk.1 h s hs;simp at this
def OX{s:ay}(g:eF M)(hs:AR (Z M) s):eF (M++[s]):=by
 intro i x h;rcases d_ i (Z M)with hi|hi
 .rw[eG hi]at h;exact g i x h
 .rw[ez hi]at h;cases hq:i-Z M with
  |zero=>
   rw[hq]at h;cases h;rwa[show i=Z M by omega]
  |succ n=>
   rw[hq]at h;simp at h
def UG{s:ay}(g:eF M)(hs:AR (Z M) s):ws (M++[s]) (Z M)=(if s.fin then [([],s.out)]else [])++s.arcs.flatMap (ir M):=by
 rw[rp (OX g hs) (show(M++[s])[Z M]?=U s by rw[ez (aJ _),gZ];rfl)];congr 1;refine CU λ a ha=>?_
 unfold ir;rw[LG g (List.prefix_append _ _) (hs.2.2.1 a ha)]
def Z3{s:ay}(g:Good M)(hs:AR (Z M) s)(hn:s∉M)(hv:∀w∈(if s.fin then [([],s.out)]else [])++s.arcs.flatMap (ir M),w.2<=4294967296):Good (M++[s]):=by
 refine⟨OX g.1 hs,?_,λ i hi w hw=>?_⟩
 .rw[we];refine⟨g.2.1,by simp,λ a ha b hb=>?_⟩;rw[ee]at hb;rintro rfl;subst hb;exact hn ha
 .rw[aU,fg]at hi;rcases d_ i (Z M)with h|h
  .rw[LG g.1 (List.prefix_append _ _) h]at hw;exact g.2.2 i h w hw
  .obtain rfl:i=Z M:=by omega
   rw[UG g.1 hs]at hw;exact hv w hw
theorem Jx:∀(l:List aD) (n:Nat),l.foldl (λ n e=>min n (val e)) n<=n/\∀e∈l,l.foldl (λ n e=>min n (val e)) n<=val e
 | [],n=>⟨aJ _,λ _ h=>(by cases h)⟩
 |x::l,n=>by
  obtain⟨h1,h2⟩:=Jx l (min n (val x));refine⟨dp h1 (Eh _ _),λ e he=>?_⟩;rcases cC.1 he with rfl|he
  .exact dp h1 (Hu _ _)
  .exact h2 e he
variable {e:aD}
def least_le{l:List aD}(h:e∈l):least l<=val e:=by
 cases l with
 |nil=>cases h
 |cons x l=>
  rcases cC.1 h with rfl|h
  .exact(Jx l _).1
  .exact(Jx l _).2 e h
theorem OI:∀(l:List aD) (n:Nat),l.foldl (λ n e=>min n (val e)) n=n\/∃e∈l,l.foldl (λ n e=>min n (val e)) n=val e
 | [],n=>.inl rfl
 |x::l,n=>by
  rw[mG];rcases OI l (min n (val x))with h|⟨e,he,h⟩
  .rcases Nat.le_total n (val x)with hl|hl
   .exact .inl (by rw[h,oA hl])
   .exact .inr ⟨x,cM,by rw[h,zY hl]⟩
  .exact .inr ⟨e,cU _ he,h⟩
def C8{l:List aD}(h:l≠ []):∃e∈l,least l=val e:=by
 cases l with
 |nil=>exact aZ rfl h
 |cons x l=>
  rcases OI l (val x)with h|⟨e,he,h⟩
  .exact⟨x,cM,h⟩
  .exact⟨e,cU _ he,h⟩
def pQ(d:Nat)(p:List UInt8)(l:List aD):Prop:=∀e∈l,e.word.take d=p/\d<=Z e.word
variable {d:Nat}
def MA{p:List UInt8}(h:e.word.take d=p):e.word=p++e.word.drop d:=by rw[<-h,s_]
def MQ:a7 d e=Y↔Z e.word<=d:=List.getElem?_eq_none_iff
def I0{b:UInt8}(h:a7 d e=U b):e.word.drop d=b::e.word.drop (d+1):=by
 obtain⟨hd,rfl⟩:=bg.1 h;rw[nb hd]
def NG(h:a7 d e=Y):e.word.drop d=[]:=Hf.2 (MQ.1 h)
def qbN{p a b:List UInt8}:lt (p++a) (p++b)↔lt a b:=by
 induction p with
 |nil=>rfl
 |cons x p ih=>
  unfold lt at ih⊢;rw[ij,ij,<-ih];simp[cJ]
def qbO{x y:UInt8}{a b:List UInt8}(h:lt (x::a) (y::b)):x<=y:=by
 unfold lt at h;simp only[cJ]at h;rcases d_ x.toNat y.toNat with hx|hx
 .exact Ef hx
 .rcases d_ y.toNat x.toNat with hy|hy
  .simp_all;omega
  .exact UInt8.le_iff_toNat_le.2 hy
def qbP{a:List UInt8}:¬lt a []:=by
 unfold lt;cases a<;>simp[cJ]
def Cg{p:List UInt8}{x y:aD}(hx:x.word.take d=p)(hy:y.word.take d=p)(h:lt x.word y.word):∃c,a7 d y=U c/\∀b,a7 d x=U b->b<=c:=by
 rw[MA hx,MA hy,qbN]at h;cases hq:a7 d y with
 |none=>rw[NG hq]at h;exact aZ h qbP
 |some c=>
  refine⟨c,rfl,λ b hb=>?_⟩;rw[I0 hb,I0 hq]at h;exact qbO h
theorem Ch{p:aD->Bool}:∀{l:List aD},gp l->gp (l.filter p)
 | [],_=>trivial
 |x::l,h=>by
  rw[kS];split
  .exact⟨λ y hy=>h.1 y (qy.1 hy).1,Ch h.2⟩
  .exact Ch h.2
def D(d less:Nat)(e:aD):List UInt8×Nat:=(e.word.drop d,val e-less)
theorem Kr{p:List UInt8}{b:UInt8}:∀{r:List aD},gp r->pQ d p r->(∀y∈r,∃c,a7 d y=U c/\b<=c)->r=r.filter (λ x=>decide (a7 d x=U b))++r.filter (λ x=>decide (a7 d x≠U b))
 | [],_,_,_=>rfl
 |x::r,ha,hb,h=>by
  obtain⟨c,hc,hbc⟩:=h x cM;rw[kS,kS];by_cases hcb:c=b
  .subst hcb;rw[aC (by simp[hc]),aq (by simp[hc]),ij];congr 1;exact Kr ha.2 (λ e he=>hb e (cU _ he)) λ y hy=>h y (cU _ hy)
  .rw[aq (by simp[hc,hcb]),aC (by simp[hc,hcb])];have hall:∀y∈r,a7 d y≠U b:=by
    intro y hy hyb;obtain⟨c',h1,h2⟩:=Cg (hb x cM).1 (hb y (cU _ hy)).1 (ha.1 y hy);have:=h2 c hc;rw[hyb]at h1;cases h1;exact hcb (UInt8.le_antisymm this hbc)
   rw[List.filter_eq_nil_iff.2 (λ y hy=>by simpa using hall y hy),Bw.2 (λ y hy=>by simpa using hall y hy)];rfl
def nh(M:List ay)(q:List ay×Nat)(l:List aD)(d less:Nat):Prop:=
 Good q.1/\M<+:q.1/\q.2<q.1.length/\((q.1=M/\q.2<Z M)\/(Z M<=q.2/\q.1.length=q.2+1))/\ws q.1 q.2=l.map (D d less)/\(Z M<=q.2->∀k,q.2<k->oh q.1 k q.2 (Z M)=U q.1.length)
def L5(rec:List aD->Nat->List ay->List ay×Nat)(d n:Nat)(p:List UInt8):Prop:=
 ∀own M b,Good M->own≠ []->gp own->pQ (d+1) (p++[b]) own->(∀e∈own,Z e.word<n/\val e<=4294967296)->nh M (rec own (least own) M) own (d+1) (least own)
variable {n:Nat}
theorem HT{rec:List aD->Nat->List ay->List ay×Nat}{less:Nat}{p:List UInt8}(hrec:L5 rec d n p):
 ∀(r:List aD) (qjX:List cK) (M:List ay),Good M->gp r->pQ d p r->(∀e∈r,Z e.word<n/\val e<=4294967296)->(∀e∈r,less<=val e)->
  (∀y∈r,∀b,(qjX.getLast?).map (·.byte)=U b->∃c,a7 d y=U c/\b<=c)->
  ∃new,(dG rec d less r qjX M).2=qjX++new/\Good (dG rec d less r qjX M).1/\M<+:(dG rec d less r qjX M).1/\(new.map (·.byte)).Pairwise (·<·)/\
   (∀a∈new,∀b,(qjX.getLast?).map (·.byte)=U b->b<a.byte)/\(∀a∈new,a.to<(dG rec d less r qjX M).1.length)/\
   ((dG rec d less r qjX M).1=M\/∃a∈new,a.to+1=(dG rec d less r qjX M).1.length)/\
   new.flatMap (ir (dG rec d less r qjX M).1)=(r.filter λ x=>decide (a7 d x≠Y/\a7 d x≠(qjX.getLast?).map (·.byte))).map (D d less)/\
   ∀k,(dG rec d less r qjX M).1.length<=k->new.foldl (mZ (dG rec d less r qjX M).1 k) (U (Z M))=U (dG rec d less r qjX M).1.length
 | [],qjX,M,g,_,_,_,_,_=>by
  unfold dG;exact⟨[],by simp,g,List.prefix_refl _,by simp,λ a ha=>(by cases ha),λ a ha=>(by cases ha),.inl rfl,by simp,λ k _=>rfl⟩
 |e::r,qjX,M,g,ha,hb,hl,hv,hy=>by
  have hb':pQ d p r:=λ x hx=>hb x (cU _ hx)
  have hl':∀x∈r,Z x.word<n/\val x<=4294967296:=λ x hx=>hl x (cU _ hx)
  have hv':∀x∈r,less<=val x:=λ x hx=>hv x (cU _ hx)
  unfold dG;by_cases hskip:a7 d e=Y\/(qjX.getLast?).map (·.byte)=a7 d e
  .rw[aC hskip];obtain⟨new,h1,h2,h3,h4,h5,h6,h7,h8,h9⟩:=HT hrec r qjX M g ha.2 hb' hl' hv' λ y hr b=>hy y (cU _ hr) b
   refine⟨new,h1,h2,h3,h4,h5,h6,h7,?_,h9⟩;rw[h8,kS,aq];rcases hskip with h|h
   .simp[h]
   .simp[h]
  .rw[aq hskip];simp only[not_or]at hskip;obtain⟨hn,hla⟩:=hskip;obtain⟨b,hbe⟩:∃b,a7 d e=U b:=L3.1 hn;have hge:∀y∈e::r,∃c,a7 d y=U c/\b<=c:=by
    intro y hyr;rcases cC.1 hyr with rfl|hyr
    .exact⟨b,hbe,UInt8.le_refl _⟩
    .obtain⟨c,h1,h2⟩:=Cg (hb e cM).1 (hb' y hyr).1 (ha.1 y hyr);exact⟨c,h1,h2 b hbe⟩
   have hown:∀x∈(e::r).filter (λ x=>decide (a7 d x=a7 d e)),x∈e::r/\a7 d x=U b:=by
    intro x hx;obtain⟨h1,h2⟩:=qy.1 hx;exact⟨h1,by rw[<-hbe];simpa using h2⟩
   have hne:(e::r).filter (λ x=>decide (a7 d x=a7 d e))≠ []:=by
    intro h;have:e∈(e::r).filter (λ x=>decide (a7 d x=a7 d e)):=qy.2 ⟨cM,by simp⟩;rw[h]at this;cases this
   have hsplit:=Kr (b:=b) ha hb hge;have hbo:pQ (d+1) (p++[b]) ((e::r).filter λ x=>decide (a7 d x=a7 d e)):=by
    intro x hx;obtain⟨h1,h2⟩:=hown x hx;obtain⟨hd,he⟩:=bg.1 h2;refine⟨?_,hd⟩;rw[eH hd,(hb x h1).1,he]
   generalize hO:(e::r).filter (λ x=>decide (a7 d x=a7 d e))=own at hown hne hbo;obtain⟨r1,r2,r3,r4,r5,r6⟩:=hrec own M b g hne (hO▸Ch ha) hbo λ x hx=>hl x (hown x hx).1
   generalize hq:rec own (least own) M=q at r1 r2 r3 r4 r5 r6;have hlast:(((qjX++[(⟨(a7 d e).getD 0,least own-less,q.2⟩:cK)]).getLast?).map (·.byte))=U b:=by
    rw[List.getLast?_append];simp[hbe]
   obtain⟨new,h1,h2,h3,h4,h5,h6,h7,h8,h9⟩:=HT hrec r (qjX++[⟨(a7 d e).getD 0,least own-less,q.2⟩]) q.1 r1 ha.2 hb' hl' hv' (by
    intro y hyr b' hb2;rw[hlast]at hb2;cases hb2;exact hge y (cU _ hyr))
   generalize dG rec d less r (qjX++[⟨(a7 d e).getD 0,least own-less,q.2⟩]) q.1=z at h1 h2 h3 h4 h5 h6 h7 h8 h9;have hqz:q.2<z.1.length:=dc r3 h3.length_le;refine⟨⟨(a7 d e).getD 0,least own-less,q.2⟩::new,by rw[h1,jD];rfl,h2,r2.trans h3,?_,?_,?_,?_,?_,?_⟩
   .rw[eU,wg];refine⟨λ c hc=>?_,h4⟩;obtain⟨a,ha1,rfl⟩:=dA.1 hc;have:=h5 a ha1 b hlast;simpa[hbe]using this
   .intro a ha1 b' hb2;have hlt:b'<b:=by
     obtain⟨c,h1,h2⟩:=hy e cM b' hb2;rw[hbe]at h1;cases h1;refine UInt8.lt_of_le_of_ne h2 λ h=>hla ?_
     rw[hb2,hbe,h]
    rcases cC.1 ha1 with rfl|ha1
    .simpa[hbe]using hlt
    .exact UInt8.lt_trans hlt (h5 a ha1 b hlast)
   .intro a ha1;rcases cC.1 ha1 with rfl|ha1
    .exact hqz
    .exact h6 a ha1
   .rcases h7 with h7|⟨a,ha1,h7⟩
    .rcases r4 with⟨r4,-⟩|⟨-,r4⟩
     .exact .inl (h7.trans r4)
     .exact .inr ⟨_,cM,by rw[h7];exact r4.symm⟩
    .exact .inr ⟨a,cU _ ha1,h7⟩
   .rw[j',h8,hlast];have hall:(e::r).filter (λ x=>decide (a7 d x≠Y/\a7 d x≠(qjX.getLast?).map (·.byte)))=e::r:=by
     rw[Bw];intro y hyr;obtain⟨c,h1,h2⟩:=hge y hyr;simp only[ne_eq,decide_not,Bool.decide_and,h1,reduceCtorEq,not_false_eq_true,decide_true,t_,decide_false,xQ];simp only[Bool.not_eq_eq_eq_not,sZ,decide_eq_false_iff_not];intro hc;obtain⟨c',h3,h4⟩:=hy e cM c hc.symm;rw[hbe]at h3;cases h3;have:c=b:=UInt8.le_antisymm h4 h2;subst this;exact hla (by rw[<-hc,hbe])
    rw[hall]
    conv=>rhs;rw[hsplit]
    rw[fY];congr 1
    .have hO':(e::r).filter (λ x=>decide (a7 d x=U b))=own:=by rw[<-hO,hbe]
     rw[hO'];unfold ir;simp only
     rw[LG r1.1 h3 r3,r5,zO];refine List.map_congr_left λ x hx=>?_
     obtain⟨h1,h2⟩:=hown x hx;have hle:=least_le hx;have hll:less<=least own:=by
      obtain⟨y,hy1,hy2⟩:=C8 hne;rw[hy2];exact hv y (hown y hy1).1
     simp only[Function.comp,D,hbe,td];rw[I0 h2];congr 1;omega
    .congr 1;rw[kS,aq (by simp[hbe])];refine List.filter_congr λ y hyr=>?_
     obtain⟨c,h1,-⟩:=hge y (cU _ hyr);simp[h1]
   .intro k hk;rw[mG];have:mZ z.1 k (U (Z M)) ⟨(a7 d e).getD 0,least own-less,q.2⟩=U q.1.length:=by
     unfold mZ;show(if Z M<=q.2 then oh z.1 k q.2 (Z M)else U (Z M))=_;rcases r4 with⟨r4,r4'⟩|⟨r4,-⟩
     .rw[aq (by omega),r4]
     .rw[aC r4,LA r1.1 h3 k q.2 (Z M) r3];exact r6 r4 k (by omega)
    rw[this];exact h9 k hk
theorem Ow{less:Nat}:∀{l:List aD} {o:Bool×Nat},(∀e∈l,a7 d e≠Y)->l.foldl (λ s e=>if a7 d e=Y then(aa,val e-less)else s) o=o
 | [],_,_=>rfl
 |x::l,o,h=>by
  rw[mG,aq (h x cM)];exact Ow λ e he=>h e (cU _ he)
def ZS{less:Nat}{p:List UInt8}:∀{l:List aD},gp l->pQ d p l->((gQ d less l).1=af->(gQ d less l).2=0)/\
 l.map (D d less)=(if(gQ d less l).1 then [([],(gQ d less l).2)]else [])++(l.filter λ x=>decide (a7 d x≠Y)).map (D d less)
 | [],_,_=>⟨λ _=>rfl,rfl⟩
 |x::l,ha,hb=>by
  have hs:∀y∈l,a7 d y≠Y:=by
   intro y hy;obtain⟨c,h1,-⟩:=Cg (hb x cM).1 (hb y (cU _ hy)).1 (ha.1 y hy);rw[h1];simp
  have hf:l.filter (λ x=>decide (a7 d x≠Y))=l:=Bw.2 λ y hy=>by simpa using hs y hy
  unfold gQ;rw[mG,Ow hs,kS,hf];by_cases hx:a7 d x=Y
  .have h1:decide (a7 d x≠Y)=af:=by simp[hx]
   rw[h1];simp[hx,D,NG hx]
  .have h1:decide (a7 d x≠Y)=aa:=by simpa using hx
   rw[h1];simp[hx]
theorem Ty:∀(f:Nat) (l:List aD) (d:Nat) (p:List UInt8) (M:List ay),Good M->l≠ []->gp l->pQ d p l->(∀e∈l,Z e.word<d+f/\val e<=4294967296)->nh M (fe f l d (least l) M) l d (least l)
 |0,l,d,p,M,g,hne,ha,hb,hl=>by
  obtain⟨x,hx⟩:=Hi l hne;have:=(hl x hx).1;have:=(hb x hx).2;omega
 |f+1,l,d,p,M,g,hne,ha,hb,hl=>by
  have hrec:L5 (λ own n M=>fe f own (d+1) n M) d (d+(f+1)) p:=λ own M b g1 h1 h2 h3 h4=>Ty f own (d+1) (p++[b]) M g1 h1 h2 h3 λ e he=>⟨by have:=(h4 e he).1;omega,(h4 e he).2⟩
  obtain⟨new,h1,h2,h3,h4,-,h6,h7,h8,h9⟩:=HT (less:=least l) hrec l [] M g ha hb hl (λ e he=>least_le he) (λ y hy b hb=>by cases hb);obtain⟨f1,f2⟩:=ZS (less:=least l) ha hb;unfold fe;generalize dG (λ own n M=>fe f own (d+1) n M) d (least l) l [] M=z at h1 h2 h3 h4 h6 h7 h8 h9;generalize gQ d (least l) l=o at f1 f2;rw[lX]at h1;rw[h1];have hf0:(l.filter λ x=>decide (a7 d x≠Y/\a7 d x≠(([]:List cK).getLast?).map (·.byte)))=l.filter λ x=>decide (a7 d x≠Y):=List.filter_congr λ x _=>by simp
  rw[hf0]at h8;have hw:l.map (D d (least l))=(if o.1 then [([],o.2)]else [])++new.flatMap (ir z.1):=by rw[h8];exact f2
  have hs:AR z.1.length ⟨o.1,o.2,new⟩:=by
   refine⟨f1,h4,h6,?_,?_⟩
   .cases ho:o.1 with
    |true=>exact .inl rfl
    |false=>
     refine .inr λ hn=>?_
     simp only at hn;rw[ho,hn]at hw;simp at hw;exact hne hw
   .obtain⟨x,hx,hxv⟩:=C8 hne;have hm:D d (least l) x∈l.map (D d (least l)):=dA.2 ⟨x,hx,rfl⟩;rw[hw]at hm;have hx0:(D d (least l) x).2=0:=by unfold D;simp only;omega
    rcases mI.1 hm with hm|hm
    .cases ho:o.1 with
     |true=>
      rw[ho,aC rfl,ee]at hm;rw[hm]at hx0;exact .inl ⟨rfl,hx0⟩
     |false=>
      rw[ho]at hm;simp at hm
    .obtain⟨a,ha1,ha2⟩:=BB.1 hm;obtain⟨w,-,hw2⟩:=dA.1 ha2;rw[<-hw2]at hx0;exact .inr ⟨a,ha1,by simp only at hx0;omega⟩
  cases hi:z.1.findIdx? (λ x=>decide (x=⟨o.1,o.2,new⟩))with
  |some j=>
   rw[Qr hi];have hj:=Pf hi;have hjl:j<z.1.length:=(bg.1 hj).1;have hz:z.1=M:=by
    rcases h7 with h7|⟨a,ha1,h7⟩
    .exact h7
    .have:=(h2.1 j _ hj).2.2.1 a ha1;omega
   refine⟨h2,h3,hjl,.inl ⟨hz,by rw[<-hz];exact hjl⟩,?_,λ h=>?_⟩
   .rw[hw,rp h2.1 hj]
   .simp only at h;rw[<-hz]at h;omega
  |none=>
   rw[Qt hi];have hn:=Pe hi;have g2:=Z3 h2 hs hn λ w hw1=>by
    rw[<-hw]at hw1;obtain⟨x,hx,rfl⟩:=dA.1 hw1;exact dp (Nat.sub_le _ _) (hl x hx).2
   have hget:(z.1++[(⟨o.1,o.2,new⟩:ay)])[z.1.length]?=U ⟨o.1,o.2,new⟩:=by rw[ez (aJ _),gZ];rfl
   have hp:z.1<+:z.1++[(⟨o.1,o.2,new⟩:ay)]:=List.prefix_append _ _;refine⟨g2,h3.trans hp,by simp,.inr ⟨h3.length_le,by simp⟩,by rw[hw];exact UG h2.1 hs,λ _ k hk=>?_⟩
   .simp only at hk;obtain⟨k',rfl⟩:∃k',k=k'+1:=⟨k-1,by omega⟩;rw[GW hget];have:List.foldl (mZ (z.1++[(⟨o.1,o.2,new⟩:ay)]) k') (U (Z M)) new=U z.1.length:=by
     rw[<-h9 k' (by omega)];refine fold_congr λ a ha1 b=>?_
     unfold mZ;congr 1;funext L;rw[LA h2.1 hp k' a.to L (h6 a ha1)]
    show(List.foldl (mZ (z.1++[(⟨o.1,o.2,new⟩:ay)]) k') (U (Z M)) new).bind _=_;rw[this];simp
end Go.Sto
namespace Go.Proofs.YtdobfpkceacneaaGreatDoor.sto
open Go.Am Go.Mdl Go.Sto
def AZ:aY bc 44=.ok 3:=by kernel_rfl
variable {b:Nat}
def YT:bM bc 44 (pw b 0) 1=.ok (pw b 1):=by kernel_rfl
def NK:bM bc 44 (pw b 0) 2=.ok (pw b 2):=by kernel_rfl
def aS(e:aD):List O:=[ag e.word,.int .u32 e.weight,.bool e.gone]
def aK(A:Mem)(e:aj)(l:List O):VB (A.alloc (ae e l)) e A.next (.var (Z l)) l:=⟨by rw[aA];omega,sV A e l⟩
def qc3{a:Nat}(h:a+b<18446744073709551616):bj .add .u64 (a:Int) (b:Int)=.ok (uN (a+b)):=fc (iz h)
def B0(e:aD):List O:=[.agg ⟨aS e⟩]
def qao{x y:aD}(h:B0 x=B0 y):x=y:=by
 obtain⟨w,n,g⟩:=x;obtain⟨w',n',g'⟩:=y;simp only[B0,aS,ff,Value.agg.injEq,G6,Value.int.injEq,Value.bool.injEq,and_true,true_and]at h;obtain⟨h1,h2,h3⟩:=h;have h1:w=w':=by unfold ag at h1;simpa using h1
 cases zK h2;subst h1 h3;rfl
variable {A:Mem}{w:List UInt8}
def qfF:az bc 140 [ag w] A (.bool (decide (0<Z w/\Z w<=64))) A:=by
 have hl:=lK (l:=w) oe;by_cases h1:0<Z w<;>by_cases h2:Z w<=64
 all_goals
  refine cG 60 (b_ Tryz.func140) (by kernel_rfl) λ M=>?_
  simp(disch:=first|decide+kernel|omega|simp only[Wq,V])only[Tryz.f140,Aq,au,reduceIte,V,ak,hl,fm,u6,hZ,fk,h1,h2,and_true,true_and,and_false,false_and]<;>rfl
variable {n:Nat}
def qgp{f:Bool}:az bc 219 [.agg ⟨[.int .u64 n,.bool f]⟩] A (.bool (f&&decide (n<=4294967296))) (A.alloc (ae 321 [.int .u64 n,.bool f])):=by
 have hv:=aK A 321 [.int .u64 n,.bool f];have l1:ax bc (A.alloc (ae 321 [.int .u64 n,.bool f])).get 147 (pw A.next 0)=.ok (.int .u64 n):=hv.ld rfl tY rfl;have l2:ax bc (A.alloc (ae 321 [.int .u64 n,.bool f])).get 4 (pw A.next 1)=.ok (.bool f):=hv.ld rfl DO rfl;have f0:∀b,bM bc 321 (pw b 0) 0=.ok (pw b 0):=λ b=>by kernel_rfl
 have f1:∀b,bM bc 321 (pw b 0) 1=.ok (pw b 1):=λ b=>by kernel_rfl
 cases f
 all_goals
  refine cG 60 (b_ Tryz.func219) (by kernel_rfl) λ M=>?_
  simp(disch:=first|decide+kernel|omega|simp only[Wq,V])only[Tryz.f219,Aq,au,reduceIte,V,ak,aX,f0,f1,l1,l2,u6,hZ,t_,zB]<;>rfl
end Go.Proofs.YtdobfpkceacneaaGreatDoor.sto
end
