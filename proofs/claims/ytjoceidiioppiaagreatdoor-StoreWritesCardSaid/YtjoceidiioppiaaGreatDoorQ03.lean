/- The abstract machine, the walk of the law and its plain laws, made small by a program; part 3: no conditions but those in each theorem. -/
import Derived.Test.YtjoceidiioppiaaGreatDoorQ02
import Derived.Test.YtjoceidiioppiaaGreatDoorChecked
import Derived.KernelRfl
set_option maxHeartbeats 16000000
set_option maxRecDepth 100000
set_option linter.unusedSimpArgs false
set_option linter.unusedVariables false
set_option linter.defProp false
noncomputable section
open Array renaming getD_eq_getD_getElem?→LN,getElem?_eq_getElem→DO,getElem?_eq_some_iff→gm,getElem?_toList→gp,replicate→tQ
open Bool renaming and_eq_true→dW,and_true→sK,eq_iff_iff→qk,false_eq_true→dR,not_false→vg,not_true→ri,or_eq_false_iff→Bp,or_eq_true→DP,true_and→tR,false→ag,true→ae
open Classical renaming byContradiction→xL
open Go renaming Code→aH,IntKind→cS,Operand→bM,Program→cI,TypeId→au,Value→I,World→aF
open Int renaming ofNat→cK,ofNat_eq_natCast→iu
open List renaming all_cons→DV,all_eq_true→oT,append_assoc→iC,append_nil→jT,cons_append→iP,flatten_append→D5,flatten_cons→vq,flatten_nil→Hj,getElem?_append_left→fe,getElem?_append_right→eV,getElem?_cons_succ→dc,getElem?_cons_zero→c7,getElem?_eq_getElem→aZ,getElem?_eq_none→ky,getElem?_eq_some_iff→bU,getElem?_map→dN,getElem?_range→BA,getElem?_set→pL,length→Z,length_append→aY,length_cons→cD,length_eq_zero_iff→eN,length_map→bc,length_nil→eB,length_set→dS,length_singleton→fb,length_take→df,map_append→gg,map_cons→lK,map_eq_nil_iff→gu,map_nil→sQ,mem_append→mw,mem_cons→cG,mem_cons_of_mem→cV,mem_cons_self→cJ,mem_map→eH,mem_of_getElem?→gJ,mem_of_mem_take→zw,mem_or_eq_of_mem_set→zx,mem_singleton→dX,nil_append→lL,range→lM,replicate→fQ,set_append_right→Eb,take_append_drop→tZ
open Nat renaming add_assoc→rk,add_comm→xU,add_mul→qo,add_zero→eo,beq→aL,beq_eq→qp,beq_refl→vz,ble→av,ble_eq→sS,ble_eq_true_of_le→my,blt→aO,blt_eq→bZ,div_le_self→Hp,div_lt_iff_lt_mul→Hq,eq_of_beq_eq_true→eW,le_of_ble_eq_true→gK,le_refl→aI,le_trans→dm,log2_lt→BH,lt_irrefl→t_,lt_of_le_of_lt→mz,lt_of_lt_of_le→c9,lt_succ_self→ua,lt_trichotomy→zC,max_eq_right→ub,min_eq_left→nf,min_eq_right→BI,mod_eq_of_lt→rm,mod_lt→jV,mul_le_mul_right→BK,mul_one→qq,ne_of_beq_eq_false→Hs,not_lt_zero→zD,one_mul→uc,pow_add→BL,pow_le_pow_right→rn,reduceAdd→ak,reduceEqDiff→aa,shiftLeft_eq→Ht,shiftRight_eq_div_pow→rp,strongRecOn→xW,sub_add_cancel→xX,sub_self→iQ,sub_zero→kL,succ→qs,two_pow_pos→xY,zero_add→ep,zero_le→a8,zero_mul→xZ
open Option renaming bind_some→vQ,getD_some→sU,isSome_none→x5,map_some→gX,none→V,some→U
open Option.some renaming inj→iR,injEq→fg
open Prod.mk renaming injEq→bH
open Go.Result renaming andThen_ok→aP
open Go.Sem renaming run_bind→aM,run_pure→a6
open Go.Proofs.Tryz renaming checked→ug,f209→rB,f226→qz,f239→jC,f248→zK,prog→dw
open UInt8 renaming ofNat→jY,toNat_inj→td,toNat_ofNat'→HI,toNat_ofNat_of_lt'→HJ
namespace Go.Am
section
variable {tb:aN}{ih:aH->St->R (Ex×St)}
def DK(n:Nat):eL .u8 (n:Int)=((n % 256:Nat):Int):=by
 rw[qj];simp[IntKind.wrap,IntKind.signed,IntKind.bits]
def LI(n:Nat):eL .u32 (n:Int)=((n % 4294967296:Nat):Int):=by
 rw[qj];simp[IntKind.wrap,IntKind.signed,IntKind.bits]
variable {n:Nat}
def LH(h:n<9223372036854775808):eL .i64 (n:Int)=(n:Int):=by
 unfold eL;rw[ct h];rfl
def Ql(h:n<256):n % 256=n:=rm h
def J'(h:n<4294967296):n % 4294967296=n:=rm h
variable {b:Nat}
def Rf{a:Nat}(ha:a<256)(hb:b<256):a_ .and .u8 (a:Int) (b:Int)=.ok (.int .u8 (a&&&b:Nat)):=by
 show(bif di .u8 (a:Int)&&di .u8 (b:Int)then R.ok (Value.int .u8 (a&&&b:Nat))else .no 10)=_;rw[qc ha,qc hb];rfl
def Rr{a:Nat}(ha:a<256)(hb:b<256):a_ .xor .u8 (a:Int) (b:Int)=.ok (.int .u8 (a^^^b:Nat)):=by
 show(bif di .u8 (a:Int)&&di .u8 (b:Int)then R.ok (Value.int .u8 (a^^^b:Nat))else .no 12)=_;rw[qc ha,qc hb];rfl
def Rp{a:Nat}(h:b<=a)(ha:a<4294967296):a_ .sub .u32 (a:Int) (b:Int)=.ok (.int .u32 (a-b:Nat)):=by
 show R.ok (Value.int .u32 (eL .u32 ((a:Int)-(b:Int))))=_;rw[show(a:Int)-(b:Int)=((a-b:Nat):Int) by omega,LI,J' (by omega)]
def Rn{a:Nat}(h:b<=a)(ha:a<9223372036854775808):a_ .sub .i64 (a:Int) (b:Int)=.ok (.int .i64 (a-b:Nat)):=by
 show R.ok (Value.int .i64 (eL .i64 ((a:Int)-(b:Int))))=_;rw[show(a:Int)-(b:Int)=((a-b:Nat):Int) by omega,LH (by omega)]
def Rg{k:cS}{a:Nat}:a_ .eql k (a:Int) (b:Int)=.ok (.bool (decide (a=b))):=by
 show R.ok (Value.bool (aL a b))=_;congr 2;cases h:aL a b with
 |true=>simp[eW h]
 |false=>simp[Hs h]
def Rk(h:n<4294967296):Be .xor (.int .u32 n)=.ok (.int .u32 (4294967295-n:Nat)):=by
 show(bif IntKind.signed .u32 then R.no 26 else bif di .u32 (n:Int)then R.ok (Value.int .u32 (.ofNat (2^IntKind.bits .u32-1-n)))else .no 26)=_;rw[As h];rfl
variable {k':cS}
def MI{d:Option TypeDesc}{k:cS}{a:Nat}(h:b<k.bits):ij .shr d (.int k (a:Int)) (.int k' (b:Int))=.ok (.int k ((a>>>b:Nat):Int)):=by
 have e:ij .shr d (.int k (a:Int)) (.int k' (b:Int))=R.ok (Value.int k (.ofNat (Nat.shiftRight a (bif aO b k.bits then b else k.bits)))):=by cases k<;>rfl
 rw[e];have:aO b k.bits=ae:=by rw[bZ];exact h
 rw[this];rfl
def MJ{d:Option TypeDesc}{a:Nat}(h:b<32):ij .shr d (.int .u32 a) (.int k' (b:Int))=.ok (.int .u32 (a>>>b:Nat)):=MI h
def MK{d:Option TypeDesc}{a:Nat}(h:b<8):ij .shr d (.int .u8 a) (.int k' (b:Int))=.ok (.int .u8 (a>>>b:Nat)):=MI h
def Ri{a:Nat}(h:a*b<9223372036854775808):a_ .mul .i64 (a:Int) (b:Int)=.ok (.int .i64 (a*b:Nat)):=by
 show R.ok (Value.int .i64 (eL .i64 ((a:Int)*(b:Int))))=_;rw[<-Int.natCast_mul,LH h]
def Ro{a:Nat}(h:a<b)(hb:b<9223372036854775808):a_ .sub .i64 (a:Int) (b:Int)=.ok (.int .i64 (-((b-a:Nat):Int))):=by
 show R.ok (Value.int .i64 (eL .i64 ((a:Int)-(b:Int))))=_;rw[show(a:Int)-(b:Int)=-((b-a:Nat):Int) by omega,qj,xG (by show(-9223372036854775808:Int)<=_;omega) (by show _<=(9223372036854775807:Int);omega)]
def Rh{k:cS}{a:Nat}(h:0<a):a_ .lss k (-(a:Int)) (b:Int)=.ok (.bool ae):=by
 obtain⟨c,rfl⟩:∃c,a=c+1:=⟨a-1,by omega⟩;rfl
def AT{a b:List UInt8}(h:Z a+Z b<4611686018427387904):ft .add a b=.ok (ai (a++b)):=by
 unfold ft;have:aO (Z a+Z b) 4611686018427387904=ae:=by rw[bZ];exact h
 simp only[this,aJ]
def Ln{a b:List UInt8}:ft .neq a b=.ok (.bool (decide (a≠b))):=by
 unfold ft;simp only[pU];congr 2;by_cases h:a=b<;>simp[h]
def Lm{a b:List UInt8}:ft .eql a b=.ok (.bool (decide (a=b))):=by
 unfold ft;simp only[pU];congr 2;by_cases h:a=b<;>simp[h]
variable {d:Nat}
def zT{k:cS}{most:Nat}(h:n<=most):bound (U (.int k (n:Int))) d most=.ok n:=by
 unfold bound;show(bif av n most then R.ok n else .no 31)=_;rw[my h];rfl
def zS{most:Nat}:bound V d most=.ok d:=rfl
def qgW{tb:aN}{t:au}{l:List UInt8}{lo hi:Option I}{a:Nat}(ht:tb.aB t=U .string)(h1:bound hi (Z l) (Z l)=.ok b)(h2:bound lo 0 b=.ok a):iL tb t (ai l) lo hi V=.ok (ai ((l.take b).drop a)):=by
 unfold iL ai;simp only[ht,h1,h2,R.aW]
def AR{tb:aN}{t:au}{l:List UInt8}{k:cS}(ht:tb.aB t=U .string)(h:n<=Z l):iL tb t (ai l) V (U (.int k (n:Int))) V=.ok (ai (l.take n)):=by
 rw[qgW ht (zT h) zS];rfl
variable {i:Nat}
def mO{t:au}{l:List UInt8}{kd:cS}(ht:tb.aB t=U .string)(h:i<Z l):uL tb t (ai l) (.int kd (i:Int))=.ok (.int .u8 ((l.getD i 0).toNat:Nat)):=by
 unfold uL ai;simp only[ht];show(match l[i]? with|some b=>R.ok (Value.int .u8 (.ofNat b.toNat))|none=>.no 53)=_;rw[aZ h];simp[List.getD,aZ h]
def gB{t:au}{l:List UInt8}(ht:tb.aB t=U .string):c_ tb .len [t] [ai l]=.ok (.int .i64 (Z l:Nat)):=by
 unfold c_ C0 ai;simp only[ht];rfl
def H8(b:UInt8):b.toNat<256:=b.toNat_lt
def N5(t:T I)(s:ByteArray):ev t (.const (.string s))=.ok (ai s.data.toList):=rfl
def ML{op:BinOp}{d:Option TypeDesc}{a b:List UInt8}:ij op d (ai a) (ai b)=ft op a b:=rfl
def sub:aH->List Nat->aH
 |.seq a b,i::l=>bif aL i 0 then sub a l else sub b l
 |.cond _ a b,i::l=>bif aL i 0 then sub a l else sub b l
 |.block _ c,_::l=>sub c l
 |.loop c,_::l=>sub c l
 |.scope c,_::l=>sub c l
 |.rangeFunc _ _ a b,i::l=>bif aL i 0 then sub a l else sub b l
 |c,_=>c
def TM(c:aH):sub c []=c:=by cases c<;>rfl
def TQ(a b:aH)(l:List Nat):sub (.seq a b) (0::l)=sub a l:=rfl
def TS(a b:aH)(l:List Nat):sub (.seq a b) (1::l)=sub b l:=rfl
def TJ(x:bM)(a b:aH)(l:List Nat):sub (.cond x a b) (0::l)=sub a l:=rfl
def TK(x:bM)(a b:aH)(l:List Nat):sub (.cond x a b) (1::l)=sub b l:=rfl
def TI(i:Nat)(c:aH)(l:List Nat):sub (.block i c) (0::l)=sub c l:=rfl
def TL(c:aH)(l:List Nat):sub (.loop c) (0::l)=sub c l:=rfl
def TP(c:aH)(l:List Nat):sub (.scope c) (0::l)=sub c l:=rfl
def TN(f:bM)(ps:Array Tmp)(a b:aH)(l:List Nat):sub (.rangeFunc f ps a b) (0::l)=sub a l:=rfl
def TO(f:bM)(ps:Array Tmp)(a b:aH)(l:List Nat):sub (.rangeFunc f ps a b) (1::l)=sub b l:=rfl
def Qt(n:Nat):aL n n=ae:=by simp
def yS{tb:aN}{ts:List au}{a:Nat}:c_ tb .min ts [.int .i64 a,.int .i64 b]=.ok (.int .i64 (min a b:Nat)):=by
 have e:c_ tb .min ts [.int .i64 a,.int .i64 b]=.ok (.int .i64 (bif aO b a then(b:Int)else(a:Int))):=by
  cases ts<;>rfl
 rw[e];cases h:aO b a with
 |true=>
  have:b<a:=by simpa[bZ]using h
  rw[BI (by omega)];rfl
 |false=>
  have:¬b<a:=by intro hx;rw[<-bZ,h]at hx;cases hx
  rw[nf (by omega)];rfl
def VZ{a b:Bool}:ij .eql (U .bool) (.bool a) (.bool b)=.ok (.bool (a==b)):=by cases a<;>cases b<;>rfl
def Rl{a:Nat}(h:0<b)(ha:a<9223372036854775808):a_ .quo .i64 (a:Int) (b:Int)=.ok (.int .i64 (a/b:Nat)):=by
 obtain⟨c,rfl⟩:∃c,b=c+1:=⟨b-1,by omega⟩;show R.ok (Value.int .i64 (eL .i64 ((a/(c+1):Nat):Int)))=_;rw[LH (mz (Hp ..) ha)]
def Re{a:Nat}(ha:a<4294967296)(hb:b<4294967296):a_ .and .u32 (a:Int) (b:Int)=.ok (.int .u32 (a&&&b:Nat)):=by
 show(bif di .u32 (a:Int)&&di .u32 (b:Int)then R.ok (Value.int .u32 (a&&&b:Nat))else .no 10)=_;rw[As ha,As hb];rfl
def MH{d:Option TypeDesc}{a:Nat}(h:b<8):ij .shl d (.int .u8 a) (.int k' (b:Int))=.ok (.int .u8 (a<<<b % 256:Nat)):=by
 have e:ij .shl d (.int .u8 a) (.int k' (b:Int))=(bif aO b 8 then R.ok (Value.int .u8 (eL .u8 ((a<<<b:Nat):Int)))else .ok (.int .u8 0)):=rfl;have hb:aO b 8=ae:=by rw[bZ];exact h
 rw[e,hb,aJ,DK]
variable {fn:Func}{A A':Mem}{v:I}
def mG {f:FuncId} {c:Code} {h:List Value->Mem->R (Value×Mem)} {args:List Value} (hf:tb.fn.get f=some fn) (hn:(fn.name== "runtime.NumGoroutine")=false) (hb:fn.body=some c)
 (hk:tb.hk.get f=U h) (hv:h args A=.ok (v,A')):cE tb ih (.fn f args) A=.ok (.val v A'):=by
 unfold cE;simp only[hf,hn,hb,hk,hv,bJ,R.aW]
end
section
variable {tb:aN}
def W(tb:aN)(c:aH)(s:St)(K:Ex->St->Prop):Prop:=∃e s',(∃f,∀m,exec tb (m+f) c s=.ok (e,s'))/\K e s'
variable {s':St}
def W.run{c:aH}{s:St}{K:Ex->St->Prop}(f:Nat){e:Ex}(h:∀m,exec tb (m+f) c s=.ok (e,s'))(k:K e s'):W tb c s K:=⟨e,s',⟨f,h⟩,k⟩
def W.mono{c:aH}{s:St}{K K':Ex->St->Prop}(h:W tb c s K)(hk:∀e s',K e s'->K' e s'):W tb c s K':=by
 obtain⟨e,s',h1,h2⟩:=h;exact⟨e,s',h1,hk _ _ h2⟩
def HF(tb:aN)(b:aH)(K:Ex->St->Prop)(e:Ex)(s:St):Prop:=
 match e with
 |.nrm=>W tb b s K
 |e=>K e s
def W.seq{a b:aH}{s:St}{K:Ex->St->Prop}(h:W tb a s (HF tb b K)):W tb (.seq a b) s K:=by
 obtain⟨e,s1,⟨f,h1⟩,h2⟩:=h;cases e with
 |nrm=>
  obtain⟨e2,s2,⟨g,h3⟩,h4⟩:=h2;refine⟨e2,s2,⟨f+g+1,λ m=>?_⟩,h4⟩;have e1:=h1 (m+g);have e2':=h3 (m+f);rw[show m+(f+g+1)=(m+g+f)+1 by omega,CD,e1,R.aW];show exec tb (m+g+f) b s1=_;rw[show m+g+f=m+f+g by omega];exact e2'
 |_=>exact⟨_,s1,⟨f+1,λ m=>by rw[show m+(f+1)=(m+f)+1 by omega,CD,h1];rfl⟩,h2⟩
def G_(id:Nat)(K:Ex->St->Prop)(e:Ex)(s:St):Prop:=
 match e with
 |.exit i=>if i=id then K .nrm s else K (.exit i) s
 |e=>K e s
def W.block{id:Nat}{c:aH}{s:St}{K:Ex->St->Prop}(h:W tb c s (G_ id K)):W tb (.block id c) s K:=by
 obtain⟨e,s1,⟨f,h1⟩,h2⟩:=h;cases e with
 |exit i=>
  unfold G_ at h2;simp only at h2;by_cases hi:i=id
  .subst hi;rw[aA rfl]at h2;exact⟨.nrm,s1,⟨f+1,λ m=>by rw[show m+(f+1)=(m+f)+1 by omega,CC,h1];simp[R.aW]⟩,h2⟩
  .rw[ax hi]at h2;have hb:aL i id=ag:=by
    cases hq:aL i id with
    |false=>rfl
    |true=>exact aU (eW hq) hi
   exact⟨.exit i,s1,⟨f+1,λ m=>by rw[show m+(f+1)=(m+f)+1 by omega,CC,h1];simp[R.aW,hb]⟩,h2⟩
 |_=>exact⟨_,s1,⟨f+1,λ m=>by rw[show m+(f+1)=(m+f)+1 by omega,CC,h1];rfl⟩,h2⟩
def W.scope{c:aH}{s:St}{K:Ex->St->Prop}(h:W tb c s K):W tb (.scope c) s K:=by
 obtain⟨e,s1,⟨f,h1⟩,h2⟩:=h;exact⟨e,s1,⟨f+1,λ m=>by rw[show m+(f+1)=(m+f)+1 by omega,Jh,h1]⟩,h2⟩
def W.cond{c:bM}{a b:aH}{s:St}{K:Ex->St->Prop}{p:Bool}(hp:ev s.t c=.ok (.bool p))(ha:p=ae->W tb a s K)(hb:p=ag->W tb b s K):W tb (.cond c a b) s K:=by
 cases p with
 |true=>
  obtain⟨e,s1,⟨f,h1⟩,h2⟩:=ha rfl;exact⟨e,s1,⟨f+1,λ m=>by rw[show m+(f+1)=(m+f)+1 by omega,Fj,hp,R.aW];exact h1 m⟩,h2⟩
 |false=>
  obtain⟨e,s1,⟨f,h1⟩,h2⟩:=hb rfl;exact⟨e,s1,⟨f+1,λ m=>by rw[show m+(f+1)=(m+f)+1 by omega,Fj,hp,R.aW];exact h1 m⟩,h2⟩
def W.round{c:aH}{s:St}{K:Ex->St->Prop}(h:W tb c s (HF tb (.loop c) K)):W tb (.loop c) s K:=by
 obtain⟨e,s1,⟨f,h1⟩,h2⟩:=h;cases e with
 |nrm=>
  obtain⟨e2,s2,⟨g,h3⟩,h4⟩:=h2;refine⟨e2,s2,⟨f+g+1,λ m=>?_⟩,h4⟩;rw[show m+(f+g+1)=(m+g+f)+1 by omega,Fk,h1,R.aW];show exec tb (m+g+f) (.loop c) s1=_;rw[show m+g+f=m+f+g by omega];exact h3 (m+f)
 |_=>exact⟨_,s1,⟨f+1,λ m=>by rw[show m+(f+1)=(m+f)+1 by omega,Fk,h1];rfl⟩,h2⟩
def W.loop{c:aH}{K:Ex->St->Prop}(P:St->Prop)(μ:St->Nat)(hb:∀s,P s->W tb c s λ e s'=>match e with
 |.nrm=>P s'/\μ s'<μ s
 |e=>K e s'):∀{s:St},P s->W tb (.loop c) s K:=by
 have main:∀n s,μ s=n->P s->W tb (.loop c) s K:=by
  intro n
  induction n using xW with
  |ind n ih=>
   intro s hn hp;obtain⟨e,s1,⟨f,h1⟩,h2⟩:=hb s hp;cases e with
   |nrm=>
    obtain⟨e2,s2,⟨g,h3⟩,h4⟩:=ih _ (by rw[<-hn];exact h2.2) s1 rfl h2.1;refine⟨e2,s2,⟨f+g+1,λ m=>?_⟩,h4⟩;have e1:=h1 (m+g);rw[show m+(f+g+1)=(m+g+f)+1 by omega,Fk,e1,R.aW];show exec tb (m+g+f) (.loop c) s1=_;rw[show m+g+f=m+f+g by omega];exact h3 (m+f)
   |_=>exact⟨_,s1,⟨f+1,λ m=>by rw[show m+(f+1)=(m+f)+1 by omega,Fk,h1];rfl⟩,h2⟩
 exact λ {s} hp=>main _ s rfl hp
def tS(tb:aN)(f:FuncId)(args:List I)(A:Mem)(v:I)(A':Mem):Prop:=∃n,call tb n f args A=.ok (.val v A')
variable {fn:Func}{A:Mem}
def IZ{f:FuncId}{c:aH}{args:List I}{Q:I->Mem->Prop}(hf:tb.fn.get f=U fn)(hb:fn.body=U c)(hn:Z args<=fn.ntmps)
 (h:W tb c ⟨T.bW .e 0 args,fn.ntmps,[],A,V⟩ λ e s=>(e=.nrm\/e=.ret)/\∃A' vs,ir s.d s.m=.ok A'/\eF tb s.t A'.get fn.results.toList=.ok vs/\Q (oneOf vs) A'):
 ∃v A',tS tb f args A v A'/\Q v A':=by
 obtain⟨e,s1,⟨g,h1⟩,he,A',vs,h2,h3,h4⟩:=h;refine⟨_,A',⟨g,?_⟩,h4⟩;unfold call;simp only[hf,hb];unfold pT;have hb:av (Z args) fn.ntmps=ae:=by rw[sS];exact hn
 rw[hb,aJ];have:=h1 0;rw[ep]at this;rw[this,R.aW];rcases he with rfl|rfl<;>simp only[h2,h3,R.aW]
def Nd {f:FuncId} {c:Code} {args:List Value} {Q:Value->Mem->Prop} (hf:tb.fn.get f=some fn) (hb:fn.body=some c) (hn:args.length<=fn.ntmps) (hnm:(fn.name== "runtime.NumGoroutine")=false) (hk:tb.hk.get f=none)
 (h:W tb c ⟨T.bW .e 0 args,fn.ntmps,[],A,V⟩ λ e s=>(e=.nrm\/e=.ret)/\∃A' vs,ir s.d s.m=.ok A'/\eF tb s.t A'.get fn.results.toList=.ok vs/\Q (oneOf vs) A'):
 ∃v A',(∃g,∀m,cE tb (exec tb (m+g)) (.fn f args) A=.ok (.val v A'))/\Q v A':=by
 obtain⟨e,s1,⟨g,h1⟩,he,A',vs,h2,h3,h4⟩:=h;refine⟨_,A',⟨g,λ m=>?_⟩,h4⟩;unfold cE;simp only[hf,hb,hnm,hk,bJ];unfold pT;have hb:av (Z args) fn.ntmps=ae:=by rw[sS];exact hn
 rw[hb,aJ,h1,R.aW];rcases he with rfl|rfl<;>simp only[h2,h3,R.aW]
end
section
variable {tb:aN}
theorem px{α:Type}(t:T α):∀(n i:Nat) (l:List α),Z l=n->(∀j,j<n->t.get (i+j)=l[j]?)->t.hZ n i=U l
 |0,i,l,hl,_=>by
  have:l=[]:=eN.1 hl;rw[this];rfl
 |n+1,i,[],hl,_=>by simp at hl
 |n+1,i,x::l,hl,h=>by
  rw[T.O0];have h0:=h 0 (by omega);simp only[eo,c7]at h0;have ht:t.hZ n (i+1)=U l:=px t n (i+1) l (by simpa using hl) λ j hj=>by
   have:=h (j+1) (by omega);rw[show i+1+j=i+(j+1) by omega,this];simp
  rw[h0,ht]
def Zr{α:Type}(l:List α):(T.bW .e 0 l).hZ (Z l) 0=U l:=
 px _ _ _ _ rfl λ j hj=>by
  rw[T.oK,ep,aA (by omega)];simp
theorem Cn:∀(l:List UInt8),bytesOf (l.map gx)=.ok l
 | []=>rfl
 |b::l=>by
  show(bytesOf (l.map gx)).bind (λ r=>R.ok (jY b.toNat::r))=_;rw[Cn l,R.aW];simp
def Bytes(A:Mem)(b:Nat)(e:au)(k:Kd)(l:List UInt8):Prop:=A.get b=U (.cells e k 0 (T.bW .e 0 (l.map gx)))
variable {A:Mem}{b:Nat}
def I'{e:au}{k:Kd}{l:List UInt8}(h:Bytes A b e k l):gh A.get 1 (Z l) (U ⟨b,0,V⟩)=.ok (l.map gx):=by
 unfold gh;simp only[qq];cases hn:aL (Z l) 0 with
 |true=>
  have:l=[]:=eN.1 (eW hn);subst this;rfl
 |false=>
  have h':A.get b=_:=h;have hg:(T.bW .e 0 (l.map gx)).hZ (Z l) 0=U (l.map gx):=by
   have:=Zr (l.map gx);rwa[bc]at this
  simp only[bJ,h',hg]
variable {c:Nat}
def TE{e:au}{k:Kd}{l:List UInt8}{s d:au}(h1:tb.aB s=U (.slice e))(h2:tb.aB d=U .string)(h3:tb.aB e=U (.int .u8))(h:Bytes A b e k l):
 gO tb A.get s d (.slice (U ⟨b,0,V⟩) (Z l) c)=.ok (ai l):=by
 unfold gO;simp only[h1,h2,h3,zb,I' h,R.aW,Cn]
def Wy{l:List UInt8}{s d e:au}(h1:tb.aB s=U .string)(h2:tb.aB d=U (.slice e))(h3:tb.aB e=U (.int .u8))(hl:Z l<4294967296):
 y_ tb s d (ai l)=.ok (.cells e .mark 0 (T.bW .e 0 (l.map gx)),.dZ (Z l) (cP (Z l) 1)):=by
 unfold y_ ai;have:aO (Z l) 4294967296=ae:=by rw[bZ];exact hl
 simp only[h1,h2,h3,this,aJ]
def Ck{v:Nat}(h:v<256):Value.int .u8 v=gx (jY v):=by
 unfold gx;have e:(jY v).toNat=v:=by rw[HI];exact rm h
 rw[e];rfl
def de(A:Mem)(o:Ob):(A.alloc o).get A.next=U o:=by rw[ma,aA rfl]
def cY{o:Ob}{x:Nat}(h:x≠A.next):(A.alloc o).get x=A.get x:=by rw[ma,ax h]
def Vf{st xt e:au}{i:TypeInfo}{b2:Nat}{k:Kd}{l:List UInt8}{v:Nat}(hst:tb.aB st=U (.slice e))(hxt:tb.aB xt=U (.slice e))(hz:fu tb e=.ok (1,[.int .u8 0]))(hi:tb.ty.get e=U i)(hib:i.bytes=1)
 (hl:Z l<16777216)(hk:k=.mark\/k=.row)(hb:Bytes A b e k l)(hb2:A.get b2=U (af e [.int .u8 v]))(hv:v<256):
 dJ tb A st xt (.slice (U ⟨b,0,V⟩) (Z l) (cP (Z l) 1)) (.slice (U ⟨b2,0,V⟩) 1 2)=
  .ok (.slice (U ⟨A.next,0,V⟩) (Z l+1) (cP (Z l+1) 1),(A.set b .dead).alloc (.cells e k 0 (T.bW .e 0 ((l++[jY v]).map gx)))):=by
 have he1:(1:Nat)<65536:=by omega
 have hnew:jJ A.get 1 1 (.slice (U ⟨b2,0,V⟩) 1 2)=.ok [gx (jY v)]:=by
  have hb3:Bytes A b2 e (.var 1) [jY v]:=by
   show A.get b2=U (.cells e (.var 1) 0 (T.bW .e 0 [gx (jY v)]));rw[hb2,Ck hv];rfl
  exact I' hb3
 have hble:av (Z l+1) (bV (cP (Z l) 1))=ag:=by
  rw[iW he1];cases hq:av (Z l+1) (Z l)with
  |false=>rfl
  |true=>have:=gK hq;omega
 have hlim:(av (Z l+1) 16777216&&av i.bytes 65536&&aO 0 i.bytes&&aO 0 1&&aO 1 65536)=ae:=by
  have a1:av (Z l+1) 16777216=ae:=my (by omega);rw[a1,hib];rfl
 have hb':A.get b=_:=hb;have hx:ed (cP (Z l) 1)=ag:=kU _ _;have he:aL (hY (cP (Z l) 1)) 1=ae:=by rw[mH he1];rfl
 have hfz:(av 0 (0+Z l*1)&&(aL e e&&aO 0 9223372036854775808))=ae:=by
  have h0:aO 0 9223372036854775808=ae:=by rw[bZ];omega
  rw[h0];simp
 unfold dJ ig;simp only[hst,hxt,kh,bJ,hz,R.aW,gj,hnew,hble,hi,hlim,aJ,I' hb,hx,he,DV,List.all_nil,gx,bS,sK,hb',hfz];rcases hk with rfl|rfl<;>simp[gx]
variable {o i:Nat}
def JN{t elem:au}{len:Nat}{k:cS}(hu:tb.aB t=U (.array len elem))(hs:bk tb elem=.ok 1)(h:i<len):
 eE tb t (.pointer (U ⟨b,o,V⟩)) (.int k (i:Int))=.ok (.pointer (U ⟨b,o+i,V⟩)):=by
 have hb:aO i len=ae:=by rw[bZ];exact h
 have hn:jx (.int k (i:Int))=.ok i:=rfl;unfold eE;simp only[hn,hu,hb,aJ,hs,R.aW,g_,qq]
variable {cap:Nat}
def JO{t elem:au}{len:Nat}{k:cS}(hu:tb.aB t=U (.slice elem))(hs:bk tb elem=.ok 1)(h:i<len):
 eE tb t (.slice (U ⟨b,o,V⟩) len cap) (.int k (i:Int))=.ok (.pointer (U ⟨b,o+i,V⟩)):=by
 have hb:aO i len=ae:=by rw[bZ];exact h
 have hn:jx (.int k (i:Int))=.ok i:=rfl;unfold eE;simp only[hn,hu,hb,aJ,hs,R.aW,g_,qq]
variable {l:List I}{v:I}
def P7{t e:au}{d:TypeDesc}(hu:tb.aB t=U d)(ha:en d=ag)(hg:A.get b=U (af e l))(hv:l[o]?=U v):
 aj tb A.get t (.pointer (U ⟨b,o,V⟩))=.ok v:=by
 have ho:o<Z l:=(bU.1 hv).1;have hc:(T.bW .e 0 l).get o=U v:=by
  rw[T.oK,aA (by omega),kL];exact hv
 unfold aj;simp only[hg,af,hu,ha,bJ,hc]
variable {B:Mem}
def qbd{t:au}(h:A.get b=B.get b):aj tb A.get t (.pointer (U ⟨b,o,V⟩))=aj tb B.get t (.pointer (U ⟨b,o,V⟩)):=by
 unfold aj;simp only[h]
variable {n:Nat}
def mQ{t e:au}{a:Option Addr}(hu:tb.aB t=U (.slice e)):c_ tb .len [t] [.slice a n c]=.ok (.int .i64 (n:Nat)):=by
 unfold c_ C0;simp only[hu];rfl
end
section
variable {tb:aN}
def DQ(A:Mem)(b:Nat)(e:au)(k:Kd)(l:List UInt8):Prop:=∃c,A.get b=U (.cells e k 0 c)/\∀i,i<Z l->c.get i=(l.map gx)[i]?
variable {A:Mem}{b:Nat}
def Ys{e:au}{k:Kd}{l:List UInt8}(h:DQ A b e k l):gh A.get 1 (Z l) (U ⟨b,0,V⟩)=.ok (l.map gx):=by
 obtain⟨c,h1,h2⟩:=h;unfold gh;simp only[qq];cases hn:aL (Z l) 0 with
 |true=>
  have:l=[]:=eN.1 (eW hn);subst this;rfl
 |false=>
  have hg:c.hZ (Z l) 0=U (l.map gx):=px _ _ _ _ (by simp) λ j hj=>by rw[ep];exact h2 j hj
  simp only[bJ,h1,hg]
variable {c:Nat}
def TD{e:au}{k:Kd}{l:List UInt8}{s d:au}(h1:tb.aB s=U (.slice e))(h2:tb.aB d=U .string)(h3:tb.aB e=U (.int .u8))(h:DQ A b e k l):
 gO tb A.get s d (.slice (U ⟨b,0,V⟩) (Z l) c)=.ok (ai l):=by
 unfold gO;simp only[h1,h2,h3,zb,Ys h,R.aW,Cn]
end
section
variable {tb:aN}{ih:aH->St->R (Ex×St)}
def Sl(t:T I):List (Nat×I)->Prop
 | []=>True
 |p::l=>t.get p.1=U p.2/\Sl t l
def U0(t:T I)(i:Nat)(v:I)(l:List (Nat×I)):Sl t ((i,v)::l)=(t.get i=U v/\Sl t l):=rfl
def U1(t:T I):Sl t []=True:=rfl
variable {s':St}
def W.cC{c:aH}{s:St}{K:Ex->St->Prop}(g f:Nat){e:Ex}(h:∀M,g<=M->exec tb (M+f) c s=.ok (e,s'))(k:K e s'):W tb c s K:=
 ⟨e,s',⟨g+f,λ m=>by rw[<-rk];exact h _ (Nat.le_add_left _ _)⟩,k⟩
variable {n:Nat}{t:T I}{A:Mem}
def W.up{c:aH}{d:List Nat}{ro:Option Nat}{K:Ex->St->Prop}(N:Nat)(P:Nat->T I->Mem->Prop)
 (hb:∀k t A,k<=N->P k t A->W tb c ⟨t,n,d,A,ro⟩ λ e s'=>match e with
  |.nrm=>k<N/\∃t' A',s'=⟨t',n,d,A',ro⟩/\P (k+1) t' A'
  |e=>K e s'){k:Nat}(hk:k<=N)(hp:P k t A):W tb (.loop c) ⟨t,n,d,A,ro⟩ K:=by
 have main:∀j k t A,k+j=N->P k t A->W tb (.loop c) ⟨t,n,d,A,ro⟩ K:=by
  intro j
  induction j with
  |zero=>
   intro k t A hk hp;refine W.round ((hb k t A (by omega) hp).mono λ e s' h=>?_);cases e with
   |nrm=>exact aU h.1 (by omega)
   |_=>exact h
  |succ j ih=>
   intro k t A hk hp;refine W.round ((hb k t A (by omega) hp).mono λ e s' h=>?_);cases e with
   |nrm=>
    obtain⟨_,t',A',rfl,h'⟩:=h;exact ih (k+1) t' A' (by omega) h'
   |_=>exact h
 exact main (N-k) k t A (by omega) hp
def az(tb:aN)(f:FuncId)(args:List I)(A:Mem)(v:I)(A':Mem):Prop:=∃g,∀M,g<=M->cE tb (exec tb M) (.fn f args) A=.ok (.val v A')
variable {fn:Func}
def pS {f:FuncId} {c:Code} {args:List Value} {Q:Value->Mem->Prop} (hf:tb.fn.get f=some fn) (hb:fn.body=some c) (hn:args.length<=fn.ntmps) (hnm:(fn.name== "runtime.NumGoroutine")=false) (hk:tb.hk.get f=none)
 (h:W tb c ⟨T.bW .e 0 args,fn.ntmps,[],A,V⟩ λ e s=>(e=.nrm\/e=.ret)/\∃A' vs,ir s.d s.m=.ok A'/\eF tb s.t A'.get fn.results.toList=.ok vs/\Q (oneOf vs) A'):
 ∃v A',az tb f args A v A'/\Q v A':=by
 obtain⟨v,A',⟨g,h1⟩,h2⟩:=Nd hf hb hn hnm hk h;refine⟨v,A',⟨g,λ M hM=>?_⟩,h2⟩;have:=h1 (M-g);rwa[xX hM]at this
variable {A':Mem}{v:I}
def Mh {f:FuncId} {c:Code} {args:List Value} (hf:tb.fn.get f=some fn) (hb:fn.body=some c) (hnm:(fn.name== "runtime.NumGoroutine")=false) (hk:tb.hk.get f=none) (h:az tb f args A v A'):tS tb f args A v A':=by
 obtain⟨g,hg⟩:=h;refine⟨g,?_⟩;have h1:=hg g (aI _);unfold cE at h1;simp only[hf,hb,hnm,hk,bJ]at h1;unfold call;simp only[hf,hb];exact h1
section
variable (dst:Option Tmp)(ty:au)(pos:String)(after:Array Edge)(g:Option (Nat×Bool))(s:St)(k:St->R (Ex×St))
def ki(f:FuncId)(a b:Array bM):bT tb ih {dst,op:=.makeFunc (.func f) a b,type:=ty,pos,after,guard:=g} s k=
 (fk s.t a.toList).bind λ a=>(fk s.t b.toList).bind λ b=>b7 s dst (.func (.func f) ⟨a⟩ ⟨b⟩) k:=by
 rw[mT _ _ _ _ _ _ _ rfl rfl];simp only[ib,R.eI,R.aW]
def EU(tb:aN)(ih:aH->St->R (Ex×St))(fv:I)(a:List I)(A:Mem):R nh:=(tw tb A.get fv a).bind λ cl=>cE tb ih cl A
def XQ(f:FuncId)(x y:List I)(a:List I)(A:Mem):EU tb ih (.func (.func f) ⟨x⟩ ⟨y⟩) a A=cE tb ih (.fn f (x++a++y)) A:=rfl
def XR(l:Nat)(x y:Array I)(a:List I)(A:Mem):EU tb ih (.func (.yield l) x y) a A=cE tb ih (.round l a) A:=rfl
def qcd(x:Nat)(args:Array bM)(ts:Array au):bT tb ih {dst,op:=.call {callee:=.value (.tmp x),args,argTypes:=ts},type:=ty,pos,after,guard:=g} s k=
 (fk s.t args.toList).bind λ a=>(ev s.t (.tmp x)).bind λ fv=>(EU tb ih fv a s.m).bind λ r=>Dh s dst k r:=by
 unfold bT;show((rW tb s.t s.m.get {callee:=.value (.tmp x),args,argTypes:=ts}).bind λ cl=>(cE tb ih cl s.m).bind λ r=>match r with
  |.val v A=>b7 {s with m:=A} dst v k
  |.ef v A=>.ok (.ef v,{s with m:=A}))=_
 unfold rW EU;simp only[R.eI];cases fk s.t args.toList with
 |no _=>rfl
 |ok a=>
  simp only[R.aW];cases ev s.t (.tmp x)with
  |no _=>rfl
  |ok fv=>
   simp only[R.aW];cases tw tb s.m.get fv a with
   |no _=>rfl
   |ok cl=>
    simp only[R.aW];cases cE tb ih cl s.m with
    |no _=>rfl
    |ok r=>cases r<;>rfl
end
def wO(t:T I):ev t (.const (.slice V 0 0))=.ok (.slice V 0 0):=rfl
def Ac(t:T I):ev t (.const .nilFunc)=.ok .nilFunc:=rfl
def eY(t:T I):ev t (.const (.pointer V))=.ok (.pointer V):=rfl
def N4(t:T I):ev t (.const (.map V))=.ok (.map V):=rfl
def Ar(a b:Int):nW a b=decide (a<b):=by
 have h:∀x y:Nat,aO x y=decide (x<y):=λ x y=>by
  cases hb:aO x y with
  |true=>rw[bZ]at hb;simp[hb]
  |false=>
   have:¬x<y:=λ h=>by rw[<-bZ,hb]at h;cases h
   simp[this]
 unfold nW;split
 .rw[h];congr 1;simp
 .symm;simp only[decide_eq_false_iff_not];simp only[iu];omega
 .symm;simp only[decide_eq_true_eq];simp only[iu];omega
 .rw[h];congr 1;simp only[eq_iff_iff];omega
def JL(a b:Int):kV a b=decide (a=b):=by
 have h:∀x y:Nat,aL x y=decide (x=y):=λ x y=>by
  cases hb:aL x y with
  |true=>have:=eW hb;simp[this]
  |false=>have:=Hs hb;simp[this]
 unfold kV;split
 .rw[h];congr 1;simp only[iu,eq_iff_iff];omega
 .rw[h];congr 1;simp only[eq_iff_iff];omega
 .rename_i h1 h2;symm;simp only[decide_eq_false_iff_not];intro hab;subst hab;cases a with
  |ofNat x=>exact h1 x x rfl rfl
  |negSucc x=>exact h2 x x rfl rfl
def tM{k:cS}{a b:Int}:a_ .leq k a b=.ok (.bool (decide (a<=b))):=by
 show R.ok (Value.bool (!nW b a))=_;rw[Ar];congr 2;by_cases h:a<=b
 .have:¬b<a:=by omega
  simp[h,this]
 .have:b<a:=by omega
  simp[h,this]
def dM{k:cS}{a b:Int}:a_ .gtr k a b=.ok (.bool (decide (b<a))):=by
 show R.ok (Value.bool (nW b a))=_;rw[Ar]
def iZ{k:cS}{a b:Int}:a_ .geq k a b=.ok (.bool (decide (b<=a))):=by
 show R.ok (Value.bool (!nW a b))=_;rw[Ar];congr 2;by_cases h:b<=a
 .have:¬a<b:=by omega
  simp[h,this]
 .have:a<b:=by omega
  simp[h,this]
def Ga{k:cS}{a b:Int}:a_ .lss k a b=.ok (.bool (decide (a<b))):=by
 show R.ok (Value.bool (nW a b))=_;rw[Ar]
def gA(a b:Nat):((a:Int)<=(b:Int))=(a<=b):=by simp
def dK(a b:Nat):((a:Int)<(b:Int))=(a<b):=by simp
variable {b:Nat}
def qck{k:cS}{a:Int}(h:0<b):a_ .rem k a (b:Int)=.ok (.int k (a.tmod b)):=by
 obtain⟨c,rfl⟩:∃c,b=c+1:=⟨b-1,by omega⟩;cases a with
 |ofNat x=>rfl
 |negSucc x=>rfl
def max_i64{ts:List au}{a:Nat}:c_ tb .max ts [.int .i64 a,.int .i64 b]=.ok (.int .i64 (max a b:Nat)):=by
 have e:c_ tb .max ts [.int .i64 a,.int .i64 b]=.ok (.int .i64 (bif aO a b then(b:Int)else(a:Int))):=by
  cases ts<;>rfl
 rw[e];cases h:aO a b with
 |true=>
  have:a<b:=by simpa[bZ]using h
  rw[ub (by omega)];rfl
 |false=>
  have:¬a<b:=by intro hx;rw[<-bZ,h]at hx;cases hx
  rw[Nat.max_eq_left (by omega)];rfl
def qh3{p:Bool}:Be .not (.bool p)=.ok (.bool (!p)):=by cases p<;>rfl
def dp(A:Mem)(e:au)(b:Nat)(k:Kd)(l:List I):Prop:=∃c,A.get b=U (.cells e k 0 c)/\∀i,i<Z l->c.get i=l[i]?
def oQ{e:au}{k:Kd}{l:List I}(h:A.get b=U (.cells e k 0 (T.bW .e 0 l))):dp A e b k l:=
 ⟨_,h,λ i hi=>by rw[T.oK,ep,aA ⟨a8 _,hi⟩,kL]⟩
def dp.same{e:au}{k:Kd}{l:List I}(h:dp A e b k l)(hg:A'.get b=A.get b):dp A' e b k l:=by
 obtain⟨c,h1,h2⟩:=h;exact⟨c,hg.trans h1,h2⟩
def Aa{e:au}{k:Kd}{l:List I}(h:dp A e b k l):gh A.get 1 (Z l) (U ⟨b,0,V⟩)=.ok l:=by
 obtain⟨c,h1,h2⟩:=h;unfold gh;simp only[qq];cases hn:aL (Z l) 0 with
 |true=>
  have:l=[]:=eN.1 (eW hn);subst this;rfl
 |false=>
  have hg:c.hZ (Z l) 0=U l:=px _ _ _ _ rfl λ j hj=>by rw[ep];exact h2 j hj
  simp only[bJ,h1,hg]
variable {o:Nat}
def dg{e t:au}{d:TypeDesc}{k:Kd}{l:List I}(hu:tb.aB t=U d)(ha:en d=ag)(h:dp A e b k l)(hv:l[o]?=U v):
 aj tb A.get t (.pointer (U ⟨b,o,V⟩))=.ok v:=by
 obtain⟨c,h1,h2⟩:=h;have ho:o<Z l:=(bU.1 hv).1;have hc:=h2 o ho;rw[hv]at hc;unfold aj;simp only[h1,hu,ha,bJ,hc]
def db{e t:au}{k:Kd}{l:List I}(hs:bk tb t=.ok 1)(h:dp A e b k l)(ho:o<Z l)(hv:v.cells.toList=[v])(h1c:bS v=ae):
 ∃A',cm tb A t (.pointer (U ⟨b,o,V⟩)) v=.ok A'/\dp A' e b k (l.set o v)/\A'.next=A.next/\∀x,x≠b->A'.get x=A.get x:=by
 obtain⟨c,h1,h2⟩:=h;have hc:c.get o=U l[o]:=by rw[h2 o ho,aZ ho]
 have hst:oe (AM k) 0 [v] o c=.ok (c.set o v):=by
  unfold oe;have hb:(bS v&&av 0 o)=ae:=by rw[h1c];simp
  rw[hb,aJ,hc];rfl
 refine⟨A.set b (.cells e k 0 (c.set o v)),?_,⟨_,by rw[cN,aA rfl],λ i hi=>?_⟩,cU _ _ _,λ x hx=>by rw[cN,ax hx]⟩
 .unfold cm;simp only[hs,R.aW,hv];show(bif aL 1 1 then lj A ⟨b,o,V⟩ [v]else .no 123)=_;unfold lj;simp only[h1,hst,R.aW];rfl
 .rw[dS]at hi;rw[T.bR,pL];by_cases hio:i=o
  .subst hio;rw[aA rfl,aA rfl,aA hi]
  .rw[ax hio,ax (λ x=>hio x.symm),h2 i hi]
def eS(A:Mem)(e:au)(b:Nat)(l:List I)(x:I):Prop:=
 (x=.slice V 0 0/\l=[])\/∃k c,x=.slice (U ⟨b,0,V⟩) (Z l) c/\b<A.next/\dp A e b k l/\(c=2*Z l\/(c=cP (Z l) 1/\(k=.row\/k=.mark)))
def eS.same{e:au}{l:List I}{x:I}(h:eS A e b l x)(hn:A.next<=A'.next)(hg:b<A.next->A'.get b=A.get b):eS A' e b l x:=by
 rcases h with h|⟨k,c,h1,h2,h3,h4⟩
 .exact .inl h
 .exact .inr ⟨k,c,h1,c9 h2 hn,h3.same (hg h2),h4⟩
def eS.len{e t t':au}{l:List I}{x:I}(h:eS A e b l x)(hu:tb.aB t=U (.slice t')):c_ tb .len [t] [x]=.ok (.int .i64 (Z l:Nat)):=by
 rcases h with⟨rfl,rfl⟩|⟨k,c,rfl,-⟩<;>exact mQ hu
def eS.idx{e t t':au}{i:Nat}{kd:cS}{l:List I}{x:I}(h:eS A e b l x)(hu:tb.aB t=U (.slice t'))(hs:bk tb t'=.ok 1)(hi:i<Z l):
 eE tb t x (.int kd (i:Int))=.ok (.pointer (U ⟨b,i,V⟩)):=by
 rcases h with⟨rfl,rfl⟩|⟨k,c,rfl,-⟩
 .simp at hi
 .rw[JO hu hs hi,ep]
def eS.load{e t:au}{d:TypeDesc}{l:List I}{x:I}(h:eS A e b l x)(hu:tb.aB t=U d)(ha:en d=ag)(hv:l[o]?=U v):
 aj tb A.get t (.pointer (U ⟨b,o,V⟩))=.ok v:=by
 rcases h with⟨rfl,rfl⟩|⟨k,c,rfl,h2,h3,-⟩
 .simp at hv
 .exact dg hu ha h3 hv
def eS.cells{e:au}{l:List I}{x:I}(h:eS A e b l x):x.cells.toList=[x]:=by
 rcases h with⟨rfl,rfl⟩|⟨k,c,rfl,-⟩<;>rfl
def eS.one{e:au}{l:List I}{x:I}(h:eS A e b l x):bS x=ae:=by
 rcases h with⟨rfl,rfl⟩|⟨k,c,rfl,-⟩<;>rfl
def Cw(l:List UInt8):(ai l).cells.toList=[ai l]:=rfl
def uC(k:cS)(n:Int):(Value.int k n).cells.toList=[.int k n]:=rfl
def Nl(a:Option Addr)(n c:Nat):(Value.slice a n c).cells.toList=[.slice a n c]:=rfl
def a7(l:List I):(Value.agg ⟨l⟩).cells.toList=l:=rfl
def Ci{a b:Bool}:ij .neq (U .bool) (.bool a) (.bool b)=.ok (.bool (a !=b)):=by cases a<;>cases b<;>rfl
def yC(f:Fn)(a b:Array I):(Value.func f a b).cells.toList=[.func f a b]:=rfl
def builtin_append(A:Mem)(st xt:au)(s x:I):wm tb A .append [st,xt] [s,x]=dJ tb A st xt s x:=rfl
def eS.append{st xt e:au}{i:TypeInfo}{z:I}{b2:Nat}{l:List I}{x:I}(h:eS A e b l x)(hst:tb.aB st=U (.slice e))(hxt:tb.aB xt=U (.slice e))(hz:fu tb e=.ok (1,[z]))(hi:tb.ty.get e=U i)(hib:0<i.bytes)(hib':i.bytes<=65536)
 (hl:Z l<16777216)(hb2:A.get b2=U (af e [v]))(h1c:bS v=ae):
 ∃x' A',dJ tb A st xt x (.slice (U ⟨b2,0,V⟩) 1 2)=.ok (x',A')/\eS A' e A.next (l++[v]) x'/\A'.next=A.next+1/\∀y,y≠b->y<A.next->A'.get y=A.get y:=by
 have he1:(1:Nat)<65536:=by omega
 have hnew:jJ A.get 1 1 (.slice (U ⟨b2,0,V⟩) 1 2)=.ok [v]:=Aa (l:=[v]) (oQ (e:=e) (k:=.var 1) hb2);have hlim:(av (Z l+1) 16777216&&av i.bytes 65536&&aO 0 i.bytes&&aO 0 1&&aO 1 65536)=ae:=by
  have a1:av (Z l+1) 16777216=ae:=my (by omega);have a2:av i.bytes 65536=ae:=my hib';have a3:aO 0 i.bytes=ae:=by rw[bZ];exact hib
  rw[a1,a2,a3];rfl
 have fin:∀(k':Kd) (A0:Mem),A0.next=A.next->(∀y,y≠b->A0.get y=A.get y)->(k'=.row\/k'=.mark)->
  eS (A0.alloc (.cells e k' 0 (T.bW .e 0 (l++[v])))) e A.next (l++[v]) (.slice (U ⟨A.next,0,V⟩) (Z l+1) (cP (Z l+1) 1))/\(A0.alloc (.cells e k' 0 (T.bW .e 0 (l++[v])))).next=A.next+1/\∀y,y≠b->y<A.next->(A0.alloc (.cells e k' 0 (T.bW .e 0 (l++[v])))).get y=A.get y:=by
  intro k' A0 hn hg hk';refine⟨.inr ⟨k',_,by rw[aY];rfl,by rw[aG];omega,oQ ?_,.inr ⟨by rw[aY];rfl,hk'⟩⟩,by rw[aG,hn],λ y hy hlt=>?_⟩
  .rw[<-hn];exact de _ _
  .rw[cY (by omega),hg y hy]
 rcases h with⟨rfl,rfl⟩|⟨k,c,rfl,h2,h3,h4⟩
 .refine⟨.slice (U ⟨A.next,0,V⟩) 1 (cP 1 1),A.alloc (.cells e .row 0 (T.bW .e 0 [v])),?_,?_⟩
  .unfold dJ ig;have hble:av (0+1) (bV 0)=ag:=rfl;have hx:ed 0=ae:=rfl;have hel:gh A.get 1 0 V=.ok []:=rfl;simp only[hst,hxt,kh,bJ,hz,R.aW,gj,hnew,hble,hi];simp only[eB,ep]at hlim;simp only[ep,hlim,aJ,hel,R.aW,hx,lL]
  .exact fin .row A rfl (λ _ _=>rfl) (.inl rfl)
 .obtain⟨cs,hb',hcs⟩:=h3;have hel:gh A.get 1 (Z l) (U ⟨b,0,V⟩)=.ok l:=Aa ⟨cs,hb',hcs⟩;rcases h4 with rfl|⟨rfl,hk⟩
  .have hx:ed (2*Z l)=ae:=by show aL (2*Z l % 2) 0=ae;rw[Nat.mul_mod_right];rfl
   have hcn:bV (2*Z l)=Z l:=by unfold bV;rw[hx,aJ];show 2*Z l/2=Z l;omega
   have hble:av (Z l+1) (bV (2*Z l))=ag:=by
    rw[hcn];cases hq:av (Z l+1) (Z l)with
    |false=>rfl
    |true=>have:=gK hq;omega
   refine⟨_,A.alloc (.cells e .row 0 (T.bW .e 0 (l++[v]))),?_,fin .row A rfl (λ _ _=>rfl) (.inl rfl)⟩;unfold dJ ig;simp only[hst,hxt,kh,bJ,hz,R.aW,gj,hnew,hble,hi,hlim,aJ,hel,hx]
  .have hble:av (Z l+1) (bV (cP (Z l) 1))=ag:=by
    rw[iW he1];cases hq:av (Z l+1) (Z l)with
    |false=>rfl
    |true=>have:=gK hq;omega
   have hx:ed (cP (Z l) 1)=ag:=kU _ _;have he:aL (hY (cP (Z l) 1)) 1=ae:=by rw[mH he1];rfl
   have hfz:(av 0 (0+Z l*1)&&(aL e e&&aO 0 9223372036854775808))=ae:=by
    have h0:aO 0 9223372036854775808=ae:=by rw[bZ];omega
    rw[h0];simp
   refine⟨_,(A.set b .dead).alloc (.cells e k 0 (T.bW .e 0 (l++[v]))),?_,fin k (A.set b .dead) (cU _ _ _) (λ y hy=>by rw[cN,ax hy]) hk⟩;unfold dJ ig;simp only[hst,hxt,kh,bJ,hz,R.aW,gj,hnew,hble,hi,hlim,aJ,hel,hx,he,DV,List.all_nil,h1c,sK,hb',hfz];rcases hk with rfl|rfl<;>rfl
def ND(tb:aN)(ops:List Oper)(fl:List (Nat×Nat)):Bool:=
 match uF tb ops with
 |.ok l=>decide (l=fl)
 |_=>ag
def bQ{id:Nat}{ops:Array Oper}{s:St}(fl:List (Nat×Nat))(h:ND tb ops.toList fl=ae):exec tb (n+1) (.region id ops ae) s=(dY tb (exec tb n) ops.toList fl ops.toList 0 [] [] [] s).bind λ(e,s)=>match e with
 |.nrm=>.ok (.nrm,s)
 |_=>.no 312:=by
 have h':uF tb ops.toList=.ok fl:=by
  unfold ND at h;split at h
  .rename_i l hl;rw[hl,of_decide_eq_true h]
  .cases h
 show((uF tb ops.toList).bind λ fl=>(dY tb (exec tb n) ops.toList fl ops.toList 0 [] [] [] s).bind λ(e,s)=>_)=_;rw[h'];rfl
section
variable {ops l:List Oper}{fl:List (Nat×Nat)}{dst:Option Tmp}{op:Op}{ty:au}{pos:String}{after:Array Edge}{i:Nat}{mems:List (Nat×Mem)}{recs:List Rec}{mks:List (Nat×Nat)}{s:St}
def qdi:dY tb ih ops fl [] i mems recs mks s=.ok (.nrm,s):=rfl
def Gp : dY tb ih ops fl ({ dst, op, type := ty, pos, after, guard := V } :: l) i mems recs mks s = match cls tb op with
        | .L => bT tb ih { dst, op, type := ty, pos, after, guard := V } { s with m := iq ((mks.filter λ x => eK x.1 i fl).map (·.2)) s.m } λ s' =>
          (ji s.m.get ((mks.filter λ x => eK x.1 i fl).map (·.2)) s'.m).bind λ A =>
          bif (recs.filter λ x => eK x.i i fl).all (jy tb A.get) then dY tb ih ops fl l (i + 1) ((i, s.m) :: mems) recs mks { s' with m := A } else .no 310
        | .Rd => (eR tb s.t s.m.get op).bind λ v =>
          bif (mems.filter λ m => eK i m.1 fl).all (λ m => jy tb m.2.get ⟨i, s.t, op, v⟩) then b7 s dst v (dY tb ih ops fl l (i + 1) mems (⟨i, s.t, op, v⟩ :: recs) mks) else .no 311
        | .Al => bT tb ih { dst, op, type := ty, pos, after, guard := V } s λ s' => dY tb ih ops fl l (i + 1) (rL s.m.next (s'.m.get s.m.next) mems) recs ((i, s.m.next) :: mks) s'
        | .P => bT tb ih { dst, op, type := ty, pos, after, guard := V } s (dY tb ih ops fl l (i + 1) mems recs mks) := rfl
def qdg(h:cls tb op=.P):dY tb ih ops fl ({dst,op,type:=ty,pos,after,guard:=V}::l) i mems recs mks s=bT tb ih {dst,op,type:=ty,pos,after,guard:=V} s (dY tb ih ops fl l (i+1) mems recs mks):=by
 rw[Gp,h]
def qde(h:cls tb op=.Al):dY tb ih ops fl ({dst,op,type:=ty,pos,after,guard:=V}::l) i mems recs mks s=bT tb ih {dst,op,type:=ty,pos,after,guard:=V} s λ s'=>dY tb ih ops fl l (i+1) (rL s.m.next (s'.m.get s.m.next) mems) recs ((i,s.m.next)::mks) s':=by
 rw[Gp,h]
def mV{α:Type}(p:Nat->Bool):List (Nat×α)->List (Nat×α)
 | []=>[]
 |x::l=>bif p x.1 then x::mV p l else mV p l
def qgn{α:Type}(p:Nat->Bool):mV p ([]:List (Nat×α))=[]:=rfl
def qgp{α:Type}{p:Nat->Bool}{j:Nat}{a:α}{l:List (Nat×α)}(h:p j=ae):mV p ((j,a)::l)=(j,a)::mV p l:=by simp[mV,h]
def qgo{α:Type}{p:Nat->Bool}{j:Nat}{a:α}{l:List (Nat×α)}(h:p j=ag):mV p ((j,a)::l)=mV p l:=by simp[mV,h]
def Gv{α:Type}(p:Nat->Bool)(l:List (Nat×α)):(l.filter λ x=>p x.1)=mV p l:=by
 induction l with
 |nil=>rfl
 |cons x l ih=>
  unfold mV;cases h:p x.1<;>simp[h,ih]
def qh(p:Nat->Bool):List Rec->List Rec
 | []=>[]
 |x::l=>bif p x.i then x::qh p l else qh p l
def qgq(p:Nat->Bool):qh p []=[]:=rfl
def qgs{p:Nat->Bool}{j:Nat}{o:Op}{l:List Rec}(h:p j=ae):qh p (⟨j,t,o,v⟩::l)=⟨j,t,o,v⟩::qh p l:=by simp[qh,h]
def qgr{p:Nat->Bool}{j:Nat}{o:Op}{l:List Rec}(h:p j=ag):qh p (⟨j,t,o,v⟩::l)=qh p l:=by simp[qh,h]
def S4(p:Nat->Bool)(l:List Rec):(l.filter λ x=>p x.i)=qh p l:=by
 induction l with
 |nil=>rfl
 |cons x l ih=>
  unfold qh;cases h:p x.i<;>simp[h,ih]
def xe(tb:aN)(x:Rec):List (Nat×Mem)->Bool
 | []=>ae
 |m::l=>jy tb m.2.get x&&xe tb x l
def qcS(x:Rec):xe tb x []=ae:=rfl
def qcR(x:Rec)(j:Nat)(A:Mem)(l:List (Nat×Mem)):xe tb x ((j,A)::l)=(jy tb A.get x&&xe tb x l):=rfl
def RV(x:Rec)(l:List (Nat×Mem)):(l.all λ m=>jy tb m.2.get x)=xe tb x l:=by
 induction l with
 |nil=>rfl
 |cons m l ih=>simp[xe,ih]
def xg(tb:aN)(g:Nat->Option Ob):List Rec->Bool
 | []=>ae
 |m::l=>jy tb g m&&xg tb g l
def qcU(g:Nat->Option Ob):xg tb g []=ae:=rfl
def qcT(g:Nat->Option Ob)(x:Rec)(l:List Rec):xg tb g (x::l)=(jy tb g x&&xg tb g l):=rfl
def RW(g:Nat->Option Ob)(l:List Rec):(l.all (jy tb g))=xg tb g l:=by
 induction l with
 |nil=>rfl
 |cons m l ih=>simp[xg,ih]
def KI(x:R I)(v:I):Bool:=
 match x with
 |.ok v'=>dD 100 v' v
 |.no _=>ag
def qcW(g:Nat->Option Ob)(j:Nat)(t:T I)(e:au)(x:Tmp)(v:I):jy tb g ⟨j,t,.load e (.tmp x),v⟩=KI ((ev t (.tmp x)).bind λ x=>aj tb g e x) v:=rfl
def AP(b o n c:Nat):dD 100 (.slice (U ⟨b,o,V⟩) n c) (.slice (U ⟨b,o,V⟩) n c)=ae:=by simp[dD,xh,tO]
def pE(k:cS)(n:Nat)(h:jv k k=ae):dD 100 (.int k (n:Int)) (.int k (n:Int))=ae:=by
 have:kV (n:Int) (n:Int)=ae:=by rw[JL];simp
 simp[dD,h,this]
def qcV(v w:I):KI (.ok v) w=dD 100 v w:=rfl
def qdh(h:cls tb op=.Rd):dY tb ih ops fl ({dst,op,type:=ty,pos,after,guard:=V}::l) i mems recs mks s=(eR tb s.t s.m.get op).bind λ v=>
 bif xe tb ⟨i,s.t,op,v⟩ (mV (λ j=>eK i j fl) mems)then b7 s dst v (dY tb ih ops fl l (i+1) mems (⟨i,s.t,op,v⟩::recs) mks)else .no 311:=by
 rw[Gp,h];simp only[Gv (λ j=>eK i j fl) mems,RV]
def qdf(h:cls tb op=.L):dY tb ih ops fl ({dst,op,type:=ty,pos,after,guard:=V}::l) i mems recs mks s=
 bT tb ih {dst,op,type:=ty,pos,after,guard:=V} {s with m:=iq ((mV (λ j=>eK j i fl) mks).map (·.2)) s.m} λ s'=>
  (ji s.m.get ((mV (λ j=>eK j i fl) mks).map (·.2)) s'.m).bind λ A=>
  bif xg tb A.get (qh (λ j=>eK j i fl) recs)then dY tb ih ops fl l (i+1) ((i,s.m)::mems) recs mks {s' with m:=A}else .no 310:=by
 rw[Gp,h];simp only[Gv (λ j=>eK j i fl) mks,S4 (λ j=>eK j i fl) recs,RW]
def qdn{j:Nat}{want:Bool}(h:iM ops {dst,op,type:=ty,pos,after,guard:=U (j,want)} s.t=.ok ag):dY tb ih ops fl ({dst,op,type:=ty,pos,after,guard:=U (j,want)}::l) i mems recs mks s=b7 s dst cQ (dY tb ih ops fl l (i+1) mems recs mks):=by
 show((iM ops {dst,op,type:=ty,pos,after,guard:=U (j,want)} s.t).bind λ w=>bif w then _ else b7 s dst cQ (dY tb ih ops fl l (i+1) mems recs mks))=_;rw[h];rfl
def Gq{j : Nat}{want : Bool}(h : iM ops { dst, op, type := ty, pos, after, guard := U (j, want) } s.t = .ok ae) : dY tb ih ops fl ({ dst, op, type := ty, pos, after, guard := U (j, want) } :: l) i mems recs mks s = match cls tb op with
        | .L => bT tb ih { dst, op, type := ty, pos, after, guard := U (j, want) } { s with m := iq ((mks.filter λ x => eK x.1 i fl).map (·.2)) s.m } λ s' =>
          (ji s.m.get ((mks.filter λ x => eK x.1 i fl).map (·.2)) s'.m).bind λ A =>
          bif (recs.filter λ x => eK x.i i fl).all (jy tb A.get) then dY tb ih ops fl l (i + 1) ((i, s.m) :: mems) recs mks { s' with m := A } else .no 310
        | .Rd => (eR tb s.t s.m.get op).bind λ v =>
          bif (mems.filter λ m => eK i m.1 fl).all (λ m => jy tb m.2.get ⟨i, s.t, op, v⟩) then b7 s dst v (dY tb ih ops fl l (i + 1) mems (⟨i, s.t, op, v⟩ :: recs) mks) else .no 311
        | .Al => bT tb ih { dst, op, type := ty, pos, after, guard := U (j, want) } s λ s' => dY tb ih ops fl l (i + 1) (rL s.m.next (s'.m.get s.m.next) mems) recs ((i, s.m.next) :: mks) s'
        | .P => bT tb ih { dst, op, type := ty, pos, after, guard := U (j, want) } s (dY tb ih ops fl l (i + 1) mems recs mks) := by
  show ((iM ops { dst, op, type := ty, pos, after, guard := U (j, want) } s.t).bind λ w => bif w then _ else _) = _
  rw [h]; rfl
section
variable {j:Nat}{want:Bool}(hw:iM ops {dst,op,type:=ty,pos,after,guard:=U (j,want)} s.t=.ok ae)
include hw
def qdl(h:cls tb op=.P):dY tb ih ops fl ({dst,op,type:=ty,pos,after,guard:=U (j,want)}::l) i mems recs mks s=bT tb ih {dst,op,type:=ty,pos,after,guard:=U (j,want)} s (dY tb ih ops fl l (i+1) mems recs mks):=by
 rw[Gq hw,h]
def qdj(h:cls tb op=.Al):dY tb ih ops fl ({dst,op,type:=ty,pos,after,guard:=U (j,want)}::l) i mems recs mks s=bT tb ih {dst,op,type:=ty,pos,after,guard:=U (j,want)} s λ s'=>dY tb ih ops fl l (i+1) (rL s.m.next (s'.m.get s.m.next) mems) recs ((i,s.m.next)::mks) s':=by
 rw[Gq hw,h]
def qdm(h:cls tb op=.Rd):dY tb ih ops fl ({dst,op,type:=ty,pos,after,guard:=U (j,want)}::l) i mems recs mks s=(eR tb s.t s.m.get op).bind λ v=>
 bif xe tb ⟨i,s.t,op,v⟩ (mV (λ j=>eK i j fl) mems)then b7 s dst v (dY tb ih ops fl l (i+1) mems (⟨i,s.t,op,v⟩::recs) mks)else .no 311:=by
 rw[Gq hw,h];simp only[Gv (λ j=>eK i j fl) mems,RV]
def qdk(h:cls tb op=.L):dY tb ih ops fl ({dst,op,type:=ty,pos,after,guard:=U (j,want)}::l) i mems recs mks s=
 bT tb ih {dst,op,type:=ty,pos,after,guard:=U (j,want)} {s with m:=iq ((mV (λ j=>eK j i fl) mks).map (·.2)) s.m} λ s'=>
  (ji s.m.get ((mV (λ j=>eK j i fl) mks).map (·.2)) s'.m).bind λ A=>
  bif xg tb A.get (qh (λ j=>eK j i fl) recs)then dY tb ih ops fl l (i+1) ((i,s.m)::mems) recs mks {s' with m:=A}else .no 310:=by
 rw[Gq hw,h];simp only[Gv (λ j=>eK j i fl) mks,S4 (λ j=>eK j i fl) recs,RW]
end
def Dq(l:List UInt8):dD 100 (ai l) (ai l)=ae:=by
 show oz l l=ae;rw[pU];simp
def U6(b:Nat)(o:Option Ob):rL b o []=[]:=by cases o<;>rfl
def U4(b:Nat)(o:Ob)(j:Nat)(A:Mem)(l:List (Nat×Mem)):rL b (U o) ((j,A)::l)=(j,A.set b o)::rL b (U o) l:=rfl
def Vm(g:Nat->Option Ob)(A:Mem):ji g [] A=.ok A:=rfl
def qcJ(t:T I)(g:Nat->Option Ob)(e:au)(x:Tmp):eR tb t g (.load e (.tmp x))=(ev t (.tmp x)).bind λ x=>aj tb g e x:=rfl
end
end
section
variable {tb:aN}
def Jg(n:Nat)(f:bM)(ps:Array Tmp)(a b:aH)(s:St):exec tb (n+1) (.rangeFunc f ps a b) s=xc tb (exec tb n) f ps.toList a b 0 s:=rfl
def mS(t:T I)(n:Nat)(ps:List Tmp)(a b:aH)(d:Nat):jd:={state:=.ready,pending:=V,fn:=0,tmps:=t,n:=n,params:=ps,assign:=a,body:=b,defers:=d}
variable {t:T I}{n:Nat}{A A':Mem}{v:I}
def W.AL{f:bM}{ps:Array Tmp}{a b:aH}{K:Ex->St->Prop}{fid:FuncId}{first capt:List I}{r:jd}
 (hf:ev t f=.ok (.func (.func fid) ⟨first⟩ ⟨capt⟩))
 (hc:az tb fid (first++[.func (.yield (A.next+1)) ⟨[]⟩ ⟨[]⟩]++capt) ((A.alloc .defd).alloc (.loop (mS t n ps.toList a b A.next))) v A')
 (hr:A'.get (A.next+1)=U (.loop r))(hst:r.state≠.busy)(hp:r.pending=V)
 (k:K .nrm ⟨t,n,[A.next],A'.set (A.next+1) (.loop {r with state:=.exhausted}),V⟩):W tb (.rangeFunc f ps a b) ⟨t,n,[],A,V⟩ K:=by
 obtain⟨g,hg⟩:=hc;refine⟨_,_,⟨g+1,λ m=>?_⟩,k⟩;rw[show m+(g+1)=(m+g)+1 by omega,Jg];have h1:=hg (m+g) (by omega);unfold xc;simp only[hf,R.aW];have hn:(A.alloc .defd).next=A.next+1:=aG _ _
 rw[hn];have hcal:∀g':Nat->Option Ob,tw tb g' (.func (.func fid) ⟨first⟩ ⟨capt⟩) [.func (.yield (A.next+1)) ⟨[]⟩ ⟨[]⟩]=.ok (.fn fid (first++[.func (.yield (A.next+1)) ⟨[]⟩ ⟨[]⟩]++capt)):=λ _=>rfl
 rw[hcal,R.aW];unfold mS at h1;rw[h1,R.aW];simp only[hr,hp];cases hs:r.state with
 |busy=>exact aU hs hst
 |_=>rfl
def Dj{l:Nat}{args:List I}{r:jd}{Q:Mem->Prop}(hl:A.get l=U (.loop r))(ht:setArgs r.n r.params args r.tmps=.ok t)
 (h:W tb r.assign ⟨t,r.n,[],A,U l⟩ λ e s1=>e=.nrm/\∃r1,s1.m.get l=U (.loop r1)/\r1.state=.ready/\W tb r.body ⟨s1.t,s1.n,s1.d,s1.m.set l (.loop {r1 with state:=.busy}),s1.ro⟩ λ e s2=>e=.nrm/\s2.d=[]/\∃r2,s2.m.get l=U (.loop r2)/\Q (s2.m.set l (.loop {r2 with state:=.ready,pending:=V}))):
 ∃A',(∃g,∀M,g<=M->cE tb (exec tb M) (.round l args) A=.ok (.val (.bool ae) A'))/\Q A':=by
 obtain⟨e,s1,⟨f1,h1⟩,rfl,r1,hr1,hst1,e2,s2,⟨f2,h2⟩,rfl,hd,r2,hr2,hQ⟩:=h;refine⟨_,⟨f1+f2,λ M hM=>?_⟩,hQ⟩;show uV (exec tb M) l args A=_;unfold uV;have e1:=h1 (M-f1);rw[xX (by omega)]at e1;have e2:=h2 (M-f2);rw[xX (by omega)]at e2;simp only[hl,ht,R.aW,e1,hr1,hst1,e2,hd,hr2]
end
section
variable {tb:aN}(ok:dO tb)
include ok in
def XU {n:Nat} {f:FuncId} {args:List I} {v:I} {A A':Mem} (h:call tb n f args A=.ok (.val v A')) {fn:Func} {c:aH} (hf:tb.fn.get f=U fn) (hb:fn.body=U c) (args':Array I) (w:aF) {ι:bj} (hr:Rel ι A w)
 (ha:bI ι args args'.toList) (hfree:∀b,A.next<=b->ι b=V) (hst:∀b l,live A b->ι b=U l->Still A b l):Calls tb.P f args' w λ e w'=>∃ι' v',e=.returned v'/\VR ι' v v'/\Leaves w w':=by
 intro cs;unfold call at h;simp only[hf,hb]at h;rcases Jz ok (CE ok n) hf hb h with⟨_,_,h1,_⟩|⟨v,A',h1,hle,hs⟩
 .cases h1
 .cases h1;obtain⟨ι',w',v',⟨fr0,st,hfn,hlv⟩,hv,hrel,hstp⟩:=hs ι w args' cs hr ha (λ b h1 _=>hfree b h1);refine⟨.returned v',w',fr0,⟨ι',v',rfl,hv,λ c hc=>?_,hstp.size,hstp.os,hstp.tape,hstp.output⟩,st,hfn,hlv⟩;by_cases hx:∃b l,live A b/\ι b=U l/\l.blk=c
  .obtain⟨b,l,h1,h2,rfl⟩:=hx;exact(hstp.kept b l h2 (hst b l h1 h2)).2
  .exact hstp.fr c hc λ b l h1 h2 h3=>hx ⟨b,l,h1,h2,h3⟩
end
section
variable {tb:aN}
theorem TB(m:Nat):∀(vs:List I) (i:Nat) (c:T I),(∀v∈vs,bS v=ae)->(∀j,j<Z vs->∃y,c.get (i+j)=U y)->oe m 0 vs i c=.ok (c.bW i vs)
 | [],_,_,_,_=>rfl
 |v::vs,i,c,h1,h2=>by
  unfold oe;have hb:(bS v&&av 0 i)=ae:=by rw[h1 v (cJ ..)];simp
  obtain⟨y,hy⟩:=h2 0 (by simp);rw[eo]at hy;rw[hb,aJ,hy];refine TB m vs (i+1) (c.set i v) (λ w hw=>h1 w (cV _ hw)) λ j hj=>?_
  rw[T.bR];by_cases e:i+1+j=i
  .omega
  .rw[ax e];obtain⟨y,hy⟩:=h2 (j+1) (by simp;omega);exact⟨y,by rw[<-hy];congr 1;omega⟩
variable {A:Mem}{b:Nat}{l:List I}
def ku{e t:au}{k:Kd}{l':List I}(hs:bk tb t=.ok (Z l))(h:dp A e b k l)(hl:Z l'=Z l)(h0:l≠ [])(h1:∀v∈l',bS v=ae):
 ∃A',cm tb A t (.pointer (U ⟨b,0,V⟩)) (.agg ⟨l'⟩)=.ok A'/\dp A' e b k l'/\A'.next=A.next/\∀x,x≠b->A'.get x=A.get x:=by
 obtain⟨c,h2,h3⟩:=h;have hst:oe (AM k) 0 l' 0 c=.ok (c.bW 0 l'):=TB _ l' 0 c h1 λ j hj=>by
  rw[ep,h3 j (by omega),aZ (show j<Z l by omega)];exact⟨_,rfl⟩
 refine⟨A.set b (.cells e k 0 (c.bW 0 l')),?_,⟨_,by rw[cN,aA rfl],λ i hi=>?_⟩,cU _ _ _,λ x hx=>by rw[cN,ax hx]⟩
 .unfold cm;have hc:(Value.agg ⟨l'⟩).cells.toList=l':=rfl;simp only[hs,R.aW,hc];have hb:aL (Z l') (Z l)=ae:=by rw[hl];simp
  rw[hb,aJ];cases l' with
  |nil=>cases l with
   |nil=>exact aU rfl h0
   |cons _ _=>simp at hl
  |cons v vs=>
   unfold lj;simp only[h2,hst,R.aW]
 .rw[T.oK,aA ⟨a8 _,by omega⟩,kL]
def cg{e t:au}{k:Kd}{d:TypeDesc}(hu:tb.aB t=U d)(ha:en d=ae)(hs:bk tb t=.ok (Z l))(h:dp A e b k l):aj tb A.get t (.pointer (U ⟨b,0,V⟩))=.ok (.agg ⟨l⟩):=by
 obtain⟨c,h1,h2⟩:=h;have hg:c.hZ (Z l) 0=U l:=px _ _ _ _ rfl λ j hj=>by rw[ep];exact h2 j hj
 unfold aj;simp only[h1,hu,ha,aJ,hs,R.aW,hg]
def xF(A:Mem)(e:au)(l:List I):dp (A.alloc (af e l)) e A.next (.var (Z l)) l:=oQ (de _ _)
variable {n:Nat}
theorem ju:∀{ls:List (List I)},(∀l∈ls,Z l=n)->Z ls.flatten=Z ls*n
 | [],_=>by simp
 |l::ls,h=>by
  rw[vq,aY,ju (λ x hx=>h x (cV _ hx)),h l (cJ ..),cD,qo,uc,xU]
theorem nU:∀{ls:List (List I)} {i j:Nat} {l:List I},(∀l∈ls,Z l=n)->ls[i]?=U l->j<n->ls.flatten[i*n+j]?=l[j]?
 | [],i,j,l,_,hi,_=>by simp at hi
 |l0::ls,0,j,l,h,hi,hj=>by
  simp only[c7,fg]at hi;subst hi;rw[vq,xZ,ep,fe (by rw[h _ (cJ ..)];exact hj)]
 |l0::ls,i+1,j,l,h,hi,hj=>by
  simp only[dc]at hi;have hl0:=h l0 (cJ ..);rw[vq,eV (by rw[hl0,qo];omega),hl0,show(i+1)*n+j-n=i*n+j by rw[qo,uc];omega];exact nU (λ x hx=>h x (cV _ hx)) hi hj
def aq(A:Mem)(e:au)(n b:Nat)(ls:List (List I))(x:I):Prop:=
 (x=.slice V 0 0/\ls=[])\/∃k c,x=.slice (U ⟨b,0,V⟩) (Z ls) c/\b<A.next/\dp A e b k ls.flatten/\(∀l∈ls,Z l=n)/\(c=2*Z ls\/(c=cP (Z ls) n/\(k=.row\/k=.mark)))
def aq.nil(A:Mem)(e:au)(n b:Nat):aq A e n b [] (.slice V 0 0):=.inl ⟨rfl,rfl⟩
variable {A':Mem}{ls:List (List I)}
def aq.same{e:au}{x:I}(h:aq A e n b ls x)(hn:A.next<=A'.next)(hg:b<A.next->A'.get b=A.get b):aq A' e n b ls x:=by
 rcases h with h|⟨k,c,h1,h2,h3,h4⟩
 .exact .inl h
 .exact .inr ⟨k,c,h1,c9 h2 hn,h3.same (hg h2),h4⟩
def aq.len{e t t':au}{x:I}(h:aq A e n b ls x)(hu:tb.aB t=U (.slice t')):c_ tb .len [t] [x]=.ok (.int .i64 (Z ls:Nat)):=by
 rcases h with⟨rfl,rfl⟩|⟨k,c,rfl,-⟩<;>exact mQ hu
variable {i:Nat}
def aq.idx{e t t':au}{kd:cS}{x:I}(h:aq A e n b ls x)(hu:tb.aB t=U (.slice t'))(hs:bk tb t'=.ok n)(hi:i<Z ls):
 eE tb t x (.int kd (i:Int))=.ok (.pointer (U ⟨b,i*n,V⟩)):=by
 rcases h with⟨rfl,rfl⟩|⟨k,c,rfl,-⟩
 .simp at hi
 .have hb:aO i (Z ls)=ae:=by rw[bZ];exact hi
  have hn:jx (.int kd (i:Int))=.ok i:=rfl;unfold eE;simp only[hn,hu,hb,aJ,hs,R.aW,g_,ep]
variable {j:Nat}{v:I}
def aq.load{e t:au}{d:TypeDesc}{x:I}(h:aq A e n b ls x)(hu:tb.aB t=U d)(ha:en d=ag)(hi:ls[i]?=U l)(hj:l[j]?=U v)(hjn:j<n):
 aj tb A.get t (.pointer (U ⟨b,i*n+j,V⟩))=.ok v:=by
 rcases h with⟨rfl,rfl⟩|⟨k,c,rfl,h2,h3,h4,-⟩
 .simp at hi
 .exact dg hu ha h3 (by rw[nU h4 hi hjn];exact hj)
def aq.cg{e t:au}{d:TypeDesc}{x:I}(h:aq A e n b ls x)(hu:tb.aB t=U d)(ha:en d=ae)(hs:bk tb t=.ok n)(hi:ls[i]?=U l):
 aj tb A.get t (.pointer (U ⟨b,i*n,V⟩))=.ok (.agg ⟨l⟩):=by
 rcases h with⟨rfl,rfl⟩|⟨k,c,rfl,h2,⟨cs,h5,h6⟩,h4,-⟩
 .simp at hi
 .have hl:Z l=n:=h4 l (gJ hi);have hlen:=ju h4;have hil:i<Z ls:=(bU.1 hi).1;have hg:cs.hZ n (i*n)=U l:=px _ _ _ _ hl λ j hj=>by
   rw[h6 (i*n+j) (by
    rw[hlen];have:=BK n (show i+1<=Z ls from hil);rw[qo,uc]at this;omega),nU h4 hi hj]
  unfold aj;simp only[h5,hu,ha,aJ,hs,R.aW,hg]
variable {m:Nat}
def wH{e:au}{k:Kd}(h:dp A e b k l)(hl:Z l=m*n):gh A.get n m (U ⟨b,0,V⟩)=.ok l:=by
 obtain⟨c,h1,h2⟩:=h;unfold gh;simp only[];cases hn:aL (m*n) 0 with
 |true=>
  have:l=[]:=eN.1 (by rw[hl];exact eW hn);subst this;rfl
 |false=>
  have hg:c.hZ (m*n) 0=U l:=px _ _ _ _ hl λ j hj=>by rw[ep];exact h2 j (by omega)
  simp only[bJ,h1,hg]
def aq.append{st xt e:au}{i:TypeInfo}{z:List I}{b2:Nat}{x:I}(h:aq A e n b ls x)(hst:tb.aB st=U (.slice e))(hxt:tb.aB xt=U (.slice e))(hz:fu tb e=.ok (n,z))(hi:tb.ty.get e=U i)(hib:0<i.bytes)(hib':i.bytes<=65536)
 (hn0:0<n)(hn1:n<65536)(hls:Z ls<16777216)(hb2:A.get b2=U (af e l))(hl:Z l=n)(h1c:∀v∈l,bS v=ae):
 ∃x' A',dJ tb A st xt x (.slice (U ⟨b2,0,V⟩) 1 2)=.ok (x',A')/\aq A' e n A.next (ls++[l]) x'/\A'.next=A.next+1/\∀y,(y=b->x=.slice V 0 0)->y<A.next->A'.get y=A.get y:=by
 have hnew:jJ A.get n 1 (.slice (U ⟨b2,0,V⟩) 1 2)=.ok l:=wH (oQ (e:=e) (k:=.var (Z l)) hb2) (by rw[uc];exact hl);have hlim:(av (Z ls+1) 16777216&&av i.bytes 65536&&aO 0 i.bytes&&aO 0 n&&aO n 65536)=ae:=by
  have a1:av (Z ls+1) 16777216=ae:=my (by omega);have a2:av i.bytes 65536=ae:=my hib';have a3:aO 0 i.bytes=ae:=by rw[bZ];exact hib
  have a4:aO 0 n=ae:=by rw[bZ];exact hn0
  have a5:aO n 65536=ae:=by rw[bZ];exact hn1
  rw[a1,a2,a3,a4,a5];rfl
 have hfl:(ls++[l]).flatten=ls.flatten++l:=by simp
 have fin:∀(k':Kd) (A0:Mem),A0.next=A.next->(∀y,y≠b->A0.get y=A.get y)->(k'=.row\/k'=.mark)->(∀l∈ls,Z l=n)->
  aq (A0.alloc (.cells e k' 0 (T.bW .e 0 (ls.flatten++l)))) e n A.next (ls++[l]) (.slice (U ⟨A.next,0,V⟩) (Z ls+1) (cP (Z ls+1) n))/\(A0.alloc (.cells e k' 0 (T.bW .e 0 (ls.flatten++l)))).next=A.next+1/\∀y,y≠b->y<A.next->(A0.alloc (.cells e k' 0 (T.bW .e 0 (ls.flatten++l)))).get y=A.get y:=by
  intro k' A0 hn hg hk' hall;refine⟨.inr ⟨k',_,by rw[aY];rfl,by rw[aG];omega,oQ ?_,λ y hy=>?_,.inr ⟨by rw[aY];rfl,hk'⟩⟩,by rw[aG,hn],λ y hy hlt=>?_⟩
  .rw[hfl,<-hn];exact de _ _
  .rcases mw.1 hy with h|h
   .exact hall y h
   .rw[dX.1 h];exact hl
  .rw[cY (by omega),hg y hy]
 rcases h with⟨rfl,rfl⟩|⟨k,c,rfl,h2,h3,h4,h5⟩
 .refine⟨.slice (U ⟨A.next,0,V⟩) 1 (cP 1 n),A.alloc (.cells e .row 0 (T.bW .e 0 ([]++l))),?_,?_⟩
  .unfold dJ ig;have hble:av (0+1) (bV 0)=ag:=rfl;have hx:ed 0=ae:=rfl;have hel:gh A.get n 0 V=.ok []:=rfl;simp only[hst,hxt,kh,bJ,hz,R.aW,gj,hnew,hble,hi];simp only[eB,ep]at hlim;simp only[ep,hlim,aJ,hel,R.aW,hx]
  .obtain⟨f1,f2,-⟩:=fin .row A rfl (λ _ _=>rfl) (.inl rfl) (λ l h=>by cases h);exact⟨f1,f2,λ y _ hy=>cY (by omega)⟩
 .have hel:gh A.get n (Z ls) (U ⟨b,0,V⟩)=.ok ls.flatten:=wH h3 (ju h4);obtain⟨cs,hb',hcs⟩:=h3;rcases h5 with rfl|⟨rfl,hk⟩
  .have hx:ed (2*Z ls)=ae:=by show aL (2*Z ls % 2) 0=ae;rw[Nat.mul_mod_right];rfl
   have hcn:bV (2*Z ls)=Z ls:=by unfold bV;rw[hx,aJ];show 2*Z ls/2=Z ls;omega
   have hble:av (Z ls+1) (bV (2*Z ls))=ag:=by
    rw[hcn];cases hq:av (Z ls+1) (Z ls)with
    |false=>rfl
    |true=>have:=gK hq;omega
   refine⟨_,A.alloc (.cells e .row 0 (T.bW .e 0 (ls.flatten++l))),?_,(fin .row A rfl (λ _ _=>rfl) (.inl rfl) h4).1,(fin .row A rfl (λ _ _=>rfl) (.inl rfl) h4).2.1,λ y hy=>(fin .row A rfl (λ _ _=>rfl) (.inl rfl) h4).2.2 y (λ e=>by cases hy e)⟩;unfold dJ ig;simp only[hst,hxt,kh,bJ,hz,R.aW,gj,hnew,hble,hi,hlim,aJ,hel,hx]
  .have hble:av (Z ls+1) (bV (cP (Z ls) n))=ag:=by
    rw[iW hn1];cases hq:av (Z ls+1) (Z ls)with
    |false=>rfl
    |true=>have:=gK hq;omega
   have hx:ed (cP (Z ls) n)=ag:=kU _ _;have he:aL (hY (cP (Z ls) n)) n=ae:=by rw[mH hn1];simp
   have hall:l.all bS=ae:=oT.2 h1c;have hfz:(av 0 (0+Z ls*n)&&(aL e e&&aO 0 9223372036854775808))=ae:=by
    have h0:aO 0 9223372036854775808=ae:=by rw[bZ];omega
    rw[h0];simp
   refine⟨_,(A.set b .dead).alloc (.cells e k 0 (T.bW .e 0 (ls.flatten++l))),?_,(fin k (A.set b .dead) (cU _ _ _) (λ y hy=>by rw[cN,ax hy]) hk h4).1,(fin k (A.set b .dead) (cU _ _ _) (λ y hy=>by rw[cN,ax hy]) hk h4).2.1,λ y hy=>(fin k (A.set b .dead) (cU _ _ _) (λ y hy=>by rw[cN,ax hy]) hk h4).2.2 y (λ e=>by cases hy e)⟩;unfold dJ ig;simp only[hst,hxt,kh,bJ,hz,R.aW,gj,hnew,hble,hi,hlim,aJ,hel,hx,he,hall,sK,hb',hfz];rcases hk with rfl|rfl<;>rfl
end
section
variable {tb:aN}
def jX(A:Mem)(e:au)(n b:Nat)(ls:List (List I))(x:I):Prop:=
 (x=.slice V 0 0/\ls=[])\/∃k c ex,x=.slice (U ⟨b,0,V⟩) (Z ls) c/\b<A.next/\dp A e b k (ls.flatten++ex)/\(∀l∈ls,Z l=n)/\lY c n=ae/\Z ls<=bV c
variable {A:Mem}{n b:Nat}{ls:List (List I)}
def aq.DD{e:au}{x:I}(hn:n<65536)(h:aq A e n b ls x):jX A e n b ls x:=by
 rcases h with h|⟨k,c,h1,h2,h3,h4,h5⟩
 .exact .inl h
 .refine .inr ⟨k,c,[],h1,h2,by rw[jT];exact h3,h4,?_,?_⟩
  .rcases h5 with rfl|⟨rfl,_⟩
   .unfold lY;rw[wF];rfl
   .unfold lY;rw[kU,mH hn,bJ];exact vz n
  .rcases h5 with rfl|⟨rfl,_⟩
   .rw[tz];exact aI _
   .rw[iW hn];exact aI _
variable {A':Mem}
def jX.same{e:au}{x:I}(h:jX A e n b ls x)(hn:A.next<=A'.next)(hg:b<A.next->A'.get b=A.get b):jX A' e n b ls x:=by
 rcases h with h|⟨k,c,ex,h1,h2,h3,h4⟩
 .exact .inl h
 .exact .inr ⟨k,c,ex,h1,c9 h2 hn,h3.same (hg h2),h4⟩
def jX.len{e t t':au}{x:I}(h:jX A e n b ls x)(hu:tb.aB t=U (.slice t')):c_ tb .len [t] [x]=.ok (.int .i64 (Z ls:Nat)):=by
 rcases h with⟨rfl,rfl⟩|⟨k,c,ex,rfl,-⟩<;>exact mQ hu
variable {i:Nat}
def jX.idx{e t t':au}{kd:cS}{x:I}(h:jX A e n b ls x)(hu:tb.aB t=U (.slice t'))(hs:bk tb t'=.ok n)(hi:i<Z ls):
 eE tb t x (.int kd (i:Int))=.ok (.pointer (U ⟨b,i*n,V⟩)):=by
 rcases h with⟨rfl,rfl⟩|⟨k,c,ex,rfl,-⟩
 .simp at hi
 .have hb:aO i (Z ls)=ae:=by rw[bZ];exact hi
  have hn:jx (.int kd (i:Int))=.ok i:=rfl;unfold eE;simp only[hn,hu,hb,aJ,hs,R.aW,g_,ep]
variable {j:Nat}
def CQ(h:∀l∈ls,Z l=n)(hi:i<Z ls)(hj:j<n):i*n+j<Z ls.flatten:=by
 rw[ju h];have:=BK n (show i+1<=Z ls from hi);rw[qo,uc]at this;omega
variable {l:List I}
def jX.cg{e t:au}{d:TypeDesc}{x:I}(h:jX A e n b ls x)(hu:tb.aB t=U d)(ha:en d=ae)(hs:bk tb t=.ok n)(hi:ls[i]?=U l):
 aj tb A.get t (.pointer (U ⟨b,i*n,V⟩))=.ok (.agg ⟨l⟩):=by
 rcases h with⟨rfl,rfl⟩|⟨k,c,ex,rfl,h2,⟨cs,h5,h6⟩,h4,-⟩
 .simp at hi
 .have hl:Z l=n:=h4 l (gJ hi);have hil:i<Z ls:=(bU.1 hi).1;have hg:cs.hZ n (i*n)=U l:=px _ _ _ _ hl λ j hj=>by
   have hlt:=CQ h4 hil hj;rw[h6 (i*n+j) (by rw[aY];omega),fe hlt,nU h4 hi hj]
  unfold aj;simp only[h5,hu,ha,aJ,hs,R.aW,hg]
def jX.self{e:au}{x:I}(h:jX A e n b ls x)(d:Nat):dD (d+1) x x=ae:=by
 rcases h with⟨rfl,-⟩|⟨k,c,ex,rfl,-⟩
 .rfl
 .exact AP _ _ _ _
variable {m:Nat}
def jX.cut{e t t':au}{x:I}(h:jX A e n b ls x)(hu:tb.aB t=U (.slice t'))(hs:bk tb t'=.ok n)(hm:m<=Z ls):
 ∃x',iL tb t x V (U (.int .i64 m)) V=.ok x'/\jX A e n b (ls.take m) x':=by
 rcases h with⟨rfl,rfl⟩|⟨k,c,ex,rfl,h2,h3,h4,h5,h6⟩
 .have hm0:m=0:=by simpa using hm
  subst hm0;refine⟨.slice V 0 0,?_,.inl ⟨rfl,rfl⟩⟩;have e1:bound (U (.int .i64 (0:Nat))) 0 (bV 0)=.ok 0:=zT (a8 _);unfold iL;simp only[hu,e1,R.aW,zS,hs]
 .have hl:(ls.take m).length=m:=by rw[df];omega
  have e1:bound (U (.int .i64 m)) (Z ls) (bV c)=.ok m:=zT (by omega);have hall:∀l∈ls.take m,Z l=n:=λ l hl=>h4 l (zw hl)
  have hfl:ls.flatten++ex=(ls.take m).flatten++((ls.drop m).flatten++ex):=by
   rw[<-iC,<-D5,tZ]
  rw[hfl]at h3;cases hx:ed c&&aL (bV c) 0 with
  |true=>
   have hc1:bV c=0:=eW (Bool.and_eq_true_iff.1 hx).2;have hm0:m=0:=by omega
   subst hm0;refine⟨.slice (U ⟨b,0,V⟩) 0 0,?_,.inr ⟨k,0,_,by rw[hl],h2,h3,hall,rfl,by rw[hl];exact a8 _⟩⟩;unfold iL;simp only[hu,e1,R.aW,zS,hs,hx,aJ,kL]
  |false=>
   refine⟨.slice (U ⟨b,0,V⟩) m (p_ c 0),?_,.inr ⟨k,_,_,by rw[hl],h2,h3,hall,?_,by rw[wE];omega⟩⟩
   .unfold iL;simp only[hu,e1,R.aW,zS,hs,hx,bJ,h5,aJ,g_,xZ,eo,kL]
   .unfold lY;unfold lY at h5;rw[z6];cases hcx:ed c with
    |true=>rfl
    |false=>
     rw[hcx,bJ]at h5;have he:hY c=n:=eW h5;have hlt:hY c<65536:=jV _ (by omega);unfold p_;rw[hcx,bJ,bJ,mH hlt,he];exact vz n
variable {y:I}
def aq.wi{st xt e:au}{xd:TypeDesc}{i:TypeInfo}{z:List I}{nl:List (List I)}{x:I}(h:aq A e n b ls x)(hst:tb.aB st=U (.slice e))(hxt:tb.aB xt=U xd)(hxd:kh xd=ag)(hz:fu tb e=.ok (n,z))(hi:tb.ty.get e=U i)(hib:0<i.bytes)(hib':i.bytes<=65536)
 (hn0:0<n)(hn1:n<65536)(hls:Z ls+m<=16777216)(hy:gj y=.ok m)(hnew:jJ A.get n m y=.ok nl.flatten)(hm:Z nl=m)(hl:∀l∈nl,Z l=n)(h1c:∀v∈nl.flatten,bS v=ae):
 ∃x' A' b',dJ tb A st xt x y=.ok (x',A')/\aq A' e n b' (ls++nl) x'/\A.next<=A'.next/\(b'=b\/A.next<=b')/\∀y,(y=b->x=.slice V 0 0)->y<A.next->A'.get y=A.get y:=by
 subst hm;by_cases h0:Z nl=0
 .have hnil:nl=[]:=eN.1 h0;subst hnil;simp only[eB,Hj]at hy hnew;refine⟨x,A,b,?_,by rw[jT];exact h,aI _,.inl rfl,λ _ _ _=>rfl⟩;rcases h with⟨rfl,rfl⟩|⟨k,c,rfl,h2,h3,h4,h5⟩
  .unfold dJ ig;simp only[hst,hxt,hxd,bJ,hz,R.aW,hy,hnew];rfl
  .have hc:Z ls<=bV c:=by
    rcases h5 with rfl|⟨rfl,_⟩
    .rw[tz];exact aI _
    .rw[iW hn1];exact aI _
   have hble:av (Z ls) (bV c)=ae:=my hc;have hst0:∀a,lj A a []=.ok A:=λ _=>rfl
   unfold dJ ig;simp only[hst,hxt,hxd,bJ,hz,R.aW,hy,hnew,eo,hble,aJ,hst0]
 have hlim:(av (Z ls+Z nl) 16777216&&av i.bytes 65536&&aO 0 i.bytes&&aO 0 n&&aO n 65536)=ae:=by
  have a1:av (Z ls+Z nl) 16777216=ae:=my (by omega);have a2:av i.bytes 65536=ae:=my hib';have a3:aO 0 i.bytes=ae:=by rw[bZ];exact hib
  have a4:aO 0 n=ae:=by rw[bZ];exact hn0
  have a5:aO n 65536=ae:=by rw[bZ];exact hn1
  rw[a1,a2,a3,a4,a5];rfl
 have hfl:(ls++nl).flatten=ls.flatten++nl.flatten:=by simp
 have hll:(ls++nl).length=Z ls+Z nl:=aY;have fin:∀(k':Kd) (A0:Mem),A0.next=A.next->(∀y,y≠b->A0.get y=A.get y)->(k'=.row\/k'=.mark)->(∀l∈ls,Z l=n)->
  aq (A0.alloc (.cells e k' 0 (T.bW .e 0 (ls.flatten++nl.flatten)))) e n A.next (ls++nl) (.slice (U ⟨A.next,0,V⟩) (Z ls+Z nl) (cP (Z ls+Z nl) n))/\A.next<=(A0.alloc (.cells e k' 0 (T.bW .e 0 (ls.flatten++nl.flatten)))).next/\∀y,y≠b->y<A.next->(A0.alloc (.cells e k' 0 (T.bW .e 0 (ls.flatten++nl.flatten)))).get y=A.get y:=by
  intro k' A0 hn hg hk' hall;refine⟨.inr ⟨k',_,by rw[hll],by rw[aG];omega,oQ ?_,λ y hy=>?_,.inr ⟨by rw[hll],hk'⟩⟩,by rw[aG,hn];omega,λ y hy hlt=>?_⟩
  .rw[hfl,<-hn];exact de _ _
  .rcases mw.1 hy with h|h
   .exact hall y h
   .exact hl y h
  .rw[cY (by omega),hg y hy]
 rcases h with⟨rfl,rfl⟩|⟨k,c,rfl,h2,h3,h4,h5⟩
 .refine⟨.slice (U ⟨A.next,0,V⟩) (0+Z nl) (cP (0+Z nl) n),A.alloc (.cells e .row 0 (T.bW .e 0 ([]++nl.flatten))),A.next,?_,?_⟩
  .unfold dJ ig;have hble:av (0+Z nl) (bV 0)=ag:=by
    cases hq:av (0+Z nl) (bV 0)with
    |false=>rfl
    |true=>
     have hq2:=gK hq;have:bV 0=0:=rfl;omega
   have hx:ed 0=ae:=rfl;have hel:gh A.get n 0 V=.ok []:=rfl;simp only[eB]at hlim;simp only[hst,hxt,hxd,bJ,hz,R.aW,hy,hnew,hble,hi,hlim,aJ,hel,hx]
  .obtain⟨f1,f2,-⟩:=fin .row A rfl (λ _ _=>rfl) (.inl rfl) (λ l h=>by cases h);exact⟨f1,f2,.inr (aI _),λ y _ hy=>cY (by omega)⟩
 .have hel:gh A.get n (Z ls) (U ⟨b,0,V⟩)=.ok ls.flatten:=wH h3 (ju h4);obtain⟨cs,hb',hcs⟩:=h3;rcases h5 with rfl|⟨rfl,hk⟩
  .have hx:ed (2*Z ls)=ae:=wF _;have hcn:bV (2*Z ls)=Z ls:=tz _;have hble:av (Z ls+Z nl) (bV (2*Z ls))=ag:=by
    rw[hcn];cases hq:av (Z ls+Z nl) (Z ls)with
    |false=>rfl
    |true=>have:=gK hq;omega
   obtain⟨f1,f2,f3⟩:=fin .row A rfl (λ _ _=>rfl) (.inl rfl) h4;refine⟨_,A.alloc (.cells e .row 0 (T.bW .e 0 (ls.flatten++nl.flatten))),A.next,?_,f1,f2,.inr (aI _),λ y hy=>f3 y (λ e=>by cases hy e)⟩;unfold dJ ig;simp only[hst,hxt,hxd,bJ,hz,R.aW,hy,hnew,hble,hi,hlim,aJ,hel,hx]
  .have hble:av (Z ls+Z nl) (bV (cP (Z ls) n))=ag:=by
    rw[iW hn1];cases hq:av (Z ls+Z nl) (Z ls)with
    |false=>rfl
    |true=>have:=gK hq;omega
   have hx:ed (cP (Z ls) n)=ag:=kU _ _;have he:aL (hY (cP (Z ls) n)) n=ae:=by rw[mH hn1];simp
   have hall:nl.flatten.all bS=ae:=oT.2 h1c;have hfz:(av 0 (0+Z ls*n)&&(aL e e&&aO 0 9223372036854775808))=ae:=by
    have h0:aO 0 9223372036854775808=ae:=by rw[bZ];omega
    rw[h0];simp
   obtain⟨f1,f2,f3⟩:=fin k (A.set b .dead) (cU _ _ _) (λ y hy=>by rw[cN,ax hy]) hk h4;refine⟨_,(A.set b .dead).alloc (.cells e k 0 (T.bW .e 0 (ls.flatten++nl.flatten))),A.next,?_,f1,f2,.inr (aI _),λ y hy=>f3 y (λ e=>by cases hy e)⟩;unfold dJ ig;simp only[hst,hxt,hxd,bJ,hz,R.aW,hy,hnew,hble,hi,hlim,aJ,hel,hx,he,hall,sK,hb',hfz];rcases hk with rfl|rfl<;>rfl
def FF(l:List I):(l.map λ v=>[v]).flatten=l:=by
 induction l with
 |nil=>rfl
 |cons a l ih=>simp only[lK,vq,ih,List.singleton_append]
def eS.qhN{e:au}{x:I}(h:eS A e b l x):aq A e 1 b (l.map λ v=>[v]) x:=by
 rcases h with⟨h1,rfl⟩|⟨k,c,h1,h2,h3,h4⟩
 .exact .inl ⟨h1,rfl⟩
 .refine .inr ⟨k,c,by rw[bc];exact h1,h2,by rw[FF];exact h3,λ l hl=>?_,by rw[bc];exact h4⟩;obtain⟨v,-,rfl⟩:=eH.1 hl;rfl
def aq.qhO{e:au}{x:I}(h:aq A e 1 b (l.map λ v=>[v]) x):eS A e b l x:=by
 rcases h with⟨h1,h2⟩|⟨k,c,h1,h2,h3,_,h4⟩
 .exact .inl ⟨h1,gu.1 h2⟩
 .rw[bc]at h1 h4;rw[FF]at h3;exact .inr ⟨k,c,h1,h2,h3,h4⟩
def eS.wi{st xt e:au}{xd:TypeDesc}{i:TypeInfo}{z:List I}{nl:List I}{x:I}(h:eS A e b l x)(hst:tb.aB st=U (.slice e))(hxt:tb.aB xt=U xd)(hxd:kh xd=ag)(hz:fu tb e=.ok (1,z))(hi:tb.ty.get e=U i)(hib:0<i.bytes)(hib':i.bytes<=65536)
 (hls:Z l+m<=16777216)(hy:gj y=.ok m)(hnew:jJ A.get 1 m y=.ok nl)(hm:Z nl=m)(h1c:∀v∈nl,bS v=ae):
 ∃x' A' b',dJ tb A st xt x y=.ok (x',A')/\eS A' e b' (l++nl) x'/\A.next<=A'.next/\(b'=b\/A.next<=b')/\∀y,(y=b->x=.slice V 0 0)->y<A.next->A'.get y=A.get y:=by
 obtain⟨x',A',b',h1,h2,h3⟩:=h.qhN.wi (nl:=nl.map λ v=>[v]) hst hxt hxd hz hi hib hib' Nat.zero_lt_one (by omega) (by rw[bc];exact hls) hy (by rw[FF];exact hnew) (by rw[bc];exact hm) (λ l hl=>by
  obtain⟨v,-,rfl⟩:=eH.1 hl;rfl) (by rw[FF];exact h1c)
 rw[<-gg]at h2;exact⟨x',A',b',h1,h2.qhO,h3⟩
variable {dst:Option Tmp}
def fm{ih:aH->St->R (Ex×St)}{ty:au}{pos:String}{after:Array Edge}{g:Option (Nat×Bool)}{s:St}{k:St->R (Ex×St)}(t:au)(x y:bM)(r:au)(h:th (tb.aB t)=ag):bT tb ih {dst,op:=.binOp .eql t x y r,type:=ty,pos,after,guard:=g} s k=
 (ev s.t x).bind λ a=>(ev s.t y).bind λ b=>(fU tb s.m.get .eql t x y a b).bind λ v=>b7 s dst v k:=by
 rw[uS (hc:=by unfold cls;simp only[h,bJ]) (hi:=rfl)];simp only[eR,R.eI]
def F'{ih:aH->St->R (Ex×St)}{ty:au}{pos:String}{after:Array Edge}{g:Option (Nat×Bool)}{s:St}{k:St->R (Ex×St)}(t:au)(x y:bM)(r:au)(h:th (tb.aB t)=ag):bT tb ih {dst,op:=.binOp .neq t x y r,type:=ty,pos,after,guard:=g} s k=
 (ev s.t x).bind λ a=>(ev s.t y).bind λ b=>(fU tb s.m.get .neq t x y a b).bind λ v=>b7 s dst v k:=by
 rw[uS (hc:=by unfold cls;simp only[h,bJ]) (hi:=rfl)];simp only[eR,R.eI]
def fieldsOf:Option TypeDesc->List (Bool×au×Nat)
 |some (.struct fs)=>fs.toList.map λ f=>(f.name== "_",f.type,f.offset)
 |_=>[]
def qas:Option TypeDesc->Bool
 |some (.struct _)=>ae
 |_=>ag
def uJ(tb:aN)(eq:au->I->I->R Bool)(xs ys:List I):List (Bool×au×Nat)->R Bool
 | []=>.ok ae
 |(n,t,o)::fs=>bif n then .no 85 else
  (nZ tb t xs o).bind λ a=>(nZ tb t ys o).bind λ b=>(eq t a b).bind λ
   |true=>uJ tb eq xs ys fs
   |false=>.ok ag
theorem Oy(eq:TypeId->Value->Value->R Bool)(xs ys:List Value):∀fs:List Field,wS tb eq xs ys fs=uJ tb eq xs ys (fs.map λ f=>(f.name== "_",f.type,f.offset))
 | []=>rfl
 |f::fs=>by
  have ih:=Oy eq xs ys fs;show wS tb eq xs ys (f::fs)=uJ tb eq xs ys ((f.name== "_",f.type,f.offset)::fs.map λ f=>(f.name== "_",f.type,f.offset));unfold wS uJ;cases f.name== "_" with
  |true=>rfl
  |false=>
   simp only[bJ];cases nZ tb f.type xs f.offset with
   |no _=>rfl
   |ok a=>
    cases nZ tb f.type ys f.offset with
    |no _=>rfl
    |ok b=>
     simp only[R.aW];cases eq f.type a b with
     |no _=>rfl
     |ok r=>cases r with
      |true=>exact ih
      |false=>rfl
def Fe{g:Nat->Option Ob}{t:au}{sh:List (Bool×au×Nat)}(h1:qas (tb.aB t)=ae)(h2:fieldsOf (tb.aB t)=sh)(h3:tb.P.stoodInHeld t=ag)(d:Nat)(xs ys:Array I):
 iG tb g (d+1) t (.agg xs) (.agg ys)=uJ tb (iG tb g d) xs.toList ys.toList sh:=by
 subst h2;unfold iG;cases hu:tb.aB t with
 |none=>rw[hu]at h1;cases h1
 |some ds=>
  cases ds with
  |struct fs=>
   simp only[h3,bJ];rw[Oy];rfl
  |_=>rw[hu]at h1;cases h1
variable {k':cS}
def CB{g:Nat->Option Ob}{t:au}{k:cS}(h:tb.aB t=U (.int k))(d:Nat)(a b:Int):iG tb g (d+1) t (.int k' a) (.int k' b)=.ok (decide (a=b)):=by
 unfold iG;have hk:jv k' k'=ae:=by cases k'<;>rfl
 simp only[h,hk,aJ,wW];rfl
def NV{g:Nat->Option Ob}{t:au}(h:tb.aB t=U .string)(d:Nat)(a b:List UInt8):iG tb g (d+1) t (ai a) (ai b)=.ok (decide (a=b)):=by
 unfold iG;simp only[h,ai,pU];congr 1;rw[qk];simp
def YB{g:Nat->Option Ob}{t:au}(h:tb.aB t=U .bool)(d:Nat)(a b:Bool):iG tb g (d+1) t (.bool a) (.bool b)=.ok (decide (a=b)):=by
 unfold iG;simp only[h];cases a<;>cases b<;>rfl
variable {o:Nat}{v:I}
def oO{t:au}{cs:List I}{d:TypeDesc}(h:tb.aB t=U d)(ha:en d=ag)(hv:cs[o]?=U v):nZ tb t cs o=.ok v:=by
 unfold nZ;simp only[h,ha,bJ,hv]
end
section
variable {tb:aN}(ok:dO tb)
def uT:I->Bool
 |.int _ _=>ae
 |.string _=>ae
 |.bool _=>ae
 |_=>ag
variable {ι:bj}{v:I}
def qcC(h:uT v=ae):VR ι v v:=by
 cases v<;>first|exact .int _ _|exact .string _|exact .bool _|cases h
def PS:List I->Nat->T I->T I
 | [],_,c=>c
 |v::l,i,c=>PS l (i+1) (bif uT v then c.set i v else c)
def qi4:Obj->Ob
 |.cells cs t fr=>.cells t .row (2*(9223372036854775808+cs.size+fr.2+1)) (PS cs.toList 0 .e)
 |_=>.dead
def qi(w:aF)(ex:List (Option Loc))(b:Nat):Option Loc:=
 if b<w.heap.size then match w.heap[b]? with
  |some (.cells cs _ _)=>U ⟨b,0,cs.size⟩
  |_=>V
 else(ex[b-w.heap.size]?).join
variable {b:Nat}{cs:Array I}
def Ur{w:aF}{ex:List (Option Loc)}{t:au}{fr:Nat×Nat}(h:w.heap[b]?=U (.cells cs t fr)):qi w ex b=U ⟨b,0,cs.size⟩:=by
 unfold qi;rw[aA (gm.1 h).1,h]
end
section
variable {tb:aN}(ok:dO tb)
def yQ(g:Nat->I->Option I):List I->Nat->T I->T I
 | [],_,c=>c
 |v::l,i,c=>yQ g l (i+1) (match g i v with|some u=>c.set i u|none=>c)
theorem JU(g:Nat->I->Option I):∀(l:List I) (i:Nat) (c:T I) (j:Nat),(yQ g l i c).get j=if i<=j/\j<i+Z l/\(l[j-i]?.bind (g j)).isSome=ae then l[j-i]?.bind (g j)else c.get j
 | [],i,c,j=>by
  unfold yQ;rw[ax (λ h=>by
   have:=h.2.1;simp only[eB]at this;omega)]
 |v::l,i,c,j=>by
  unfold yQ;rw[JU g l (i+1)];by_cases hj:j=i
  .subst hj;rw[ax (by omega),iQ,c7,vQ];cases hp:g j v with
   |some u=>
    rw[aA ⟨aI _,by simp,rfl⟩];show(c.set j u).get j=_;rw[T.bR,aA rfl]
   |none=>rw[ax (λ h=>by simp at h)]
  .have hc:(match g i v with|some u=>c.set i u|none=>c:T I).get j=c.get j:=by
    cases g i v with
    |some u=>
     show(c.set i u).get j=_;rw[T.bR,ax hj]
    |none=>rfl
   rw[hc];by_cases hij:i+1<=j
   .have e:(v::l)[j-i]?=l[j-(i+1)]?:=by
     rw[show j-i=(j-(i+1))+1 by omega,dc]
    rw[e];simp only[cD];by_cases hx:j<i+1+Z l/\(l[j-(i+1)]?.bind (g j)).isSome=ae
    .rw[aA ⟨hij,hx.1,hx.2⟩,aA ⟨by omega,by omega,hx.2⟩]
    .rw[ax (λ h=>hx h.2),ax (λ h=>hx ⟨by omega,h.2.2⟩)]
   .rw[ax (λ h=>hij h.1),ax (λ h=>by omega)]
variable {l:List I}{j:Nat}
def qaL{g:Nat->I->Option I}{u:I}(h:(yQ g l 0 .e).get j=U u):∃v,l[j]?=U v/\g j v=U u:=by
 rw[JU]at h;split at h
 .rw[kL,Option.bind_eq_some_iff]at h;exact h
 .rw[T.pv]at h;cases h
variable {v:I}
def PR{g:Nat->I->Option I}{u:I}(h:l[j]?=U v)(hp:g j v=U u):(yQ g l 0 .e).get j=U u:=by
 rw[JU,kL,h,vQ,hp,aA ⟨a8 _,by have:=(bU.1 h).1;omega,rfl⟩]
def LF(g:Nat->I->Option I):Obj->Ob
 |.cells cs t fr=>.cells t .row (2*(9223372036854775808+cs.size+fr.2+1)) (yQ g cs.toList 0 .e)
 |_=>.dead
def pI(w:aF)(n:Nat)(N:Nat->Nat->I->Option I):Mem:=
 ⟨T.ofList ((lM w.heap.size).map λ b=>match w.heap[b]? with|some o=>LF (N b) o|none=>.dead),w.heap.size+n⟩
def Bj(w:aF)(n:Nat)(N:Nat->Nat->I->Option I)(b:Nat):(pI w n N).get b=(w.heap[b]?).map (LF (N b)):=by
 show(T.ofList _).get b=_;rw[T.Ao,dN];by_cases hb:b<w.heap.size
 .rw[BA hb,gX,DO hb];rfl
 .rw[ky (by simpa using hb),Array.getElem?_eq_none (by omega)];rfl
variable {b:Nat}
def GY{w:aF}{ex:List (Option Loc)}{N:Nat->Nat->I->Option I}{o:Ob}{l:Loc}(hg:(pI w (Z ex) N).get b=U o)(hl:qi w ex b=U l):∃cs t fr,w.heap[b]?=U (.cells cs t fr)/\o=LF (N b) (.cells cs t fr)/\l=⟨b,0,cs.size⟩:=by
 rw[Bj]at hg;cases hb:w.heap[b]? with
 |none=>rw[hb]at hg;cases hg
 |some o'=>
  rw[hb]at hg;have hlt:=(gm.1 hb).1;unfold qi at hl;rw[aA hlt,hb]at hl;cases o' with
  |cells cs t fr=>
   cases hl;exact⟨cs,t,fr,rfl,(iR hg).symm,rfl⟩
  |_=>cases hl
def Ho(w:aF)(ex:List (Option Loc))(N:Nat->Nat->I->Option I):Prop:=∀(b i:Nat) (v u:I),N b i v=U u->VR (qi w ex) u v
def qii(w:aF)(ex:List (Option Loc))(hex:∀l,U l∈ex->l.blk<w.heap.size){N:Nat->Nat->I->Option I}(hN:Ho w ex N):Rel (qi w ex) (pI w (Z ex) N) w:=by
 refine⟨λ b hb=>?_,λ b o l hg _ hl=>?_,λ b l hl=>?_,λ b b' l l' hb hb' hl hl' he=>?_,λ b t k c hb=>?_⟩
 .have hb':w.heap.size+Z ex<=b:=hb;rw[Bj,Array.getElem?_eq_none (by omega)];rfl
 .obtain⟨cs,t,fr,h1,rfl,rfl⟩:=GY hg hl;refine⟨_,h1,cs,fr,rfl,rfl,λ i u hu=>?_,?_⟩
  .obtain⟨v,h2,h3⟩:=qaL hu;rw[gp]at h2;exact⟨v,h2,hN _ _ _ _ h3⟩
  .show fr.2<=0+(2*(9223372036854775808+cs.size+fr.2+1));omega
 .unfold qi at hl;split at hl
  .rename_i hlt;split at hl
   .cases hl;exact hlt
   .cases hl
  .cases hx:ex[b-w.heap.size]? with
   |none=>rw[hx]at hl;cases hl
   |some ol=>
    rw[hx]at hl;cases ol with
    |none=>cases hl
    |some l0=>
     cases hl;exact hex _ (gJ hx)
 .obtain⟨o,hg,_⟩:=hb;obtain⟨o',hg',_⟩:=hb';obtain⟨_,_,_,_,_,rfl⟩:=GY hg hl;obtain⟨_,_,_,_,_,rfl⟩:=GY hg' hl';exact he
 .rw[Bj]at hb;cases h:w.heap[b]? with
  |none=>rw[h]at hb;cases hb
  |some o=>
   rw[h]at hb;have h2:=iR hb;cases o with
   |cells cs t' fr=>
    have h3:2*(9223372036854775808+cs.size+fr.2+1)=GB k:=by injection h2
    unfold GB at h3;omega
   |_=>cases h2
include ok in
def Va {w:aF} (ex:List (Option Loc)) (hex:∀l,U l∈ex->l.blk<w.heap.size) {N:Nat->Nat->I->Option I} (hN:Ho w ex N) {f:FuncId} {fn:Func} {c:aH} (hf:tb.fn.get f=U fn) (hb:fn.body=U c) {args:List I} {args':Array I} (ha:bI (qi w ex) args args'.toList)
 (hlaw:∃A',tS tb f args (pI w (Z ex) N) (.bool ae) A'):Calls tb.P f args' w λ e w'=>e=.returned (.bool ae)/\Leaves w w':=by
 intro cs;obtain⟨A',n,hc⟩:=hlaw;obtain⟨e,w',fr,⟨ι',v',he,hv,hl⟩,st⟩:=XU ok hc hf hb args' w (qii w ex hex hN) ha (λ b hb=>by
  have hb':w.heap.size+Z ex<=b:=hb;unfold qi;rw[ax (by omega),ky (by omega)];rfl) (λ b l hb hl=>by
  obtain⟨o,hg,_⟩:=hb;obtain⟨cs,t,fr,h1,rfl,rfl⟩:=GY hg hl;refine⟨?_,t,_,_,hg,by omega,?_⟩
  .show b<w.heap.size+Z ex;have:=(gm.1 h1).1;omega
  .show cs.size<2*(9223372036854775808+cs.size+fr.2+1);omega) cs
 cases hv;exact⟨e,w',fr,⟨he,hl⟩,st⟩
def tC:I:=.complex .f32 0 0
open Classical in
def jh (w:World) (n:Nat) (v:Value):Option Value:=
 if uT v=true then some v else match v with
 |.slice none len cap=>if len=0/\cap=0 then some (.slice none 0 0)else none
 |.slice (some x) len cap=>
  if len=0/\cap=0 then some tC
  else if VR (qi w []) (.slice (some ⟨x.block,x.off,none⟩) len (cP len n)) (.slice (some x) len cap)then some (.slice (some ⟨x.block,x.off,none⟩) len (cP len n))
  else none
 |_=>none
variable {n:Nat}
def Me{w:aF}{u:I}(h:jh w n v=U u):VR (qi w []) u v:=by
 unfold jh at h;split at h
 .rename_i hp;cases h;exact qcC hp
 .split at h
  .split at h
   .rename_i hh;obtain⟨rfl,rfl⟩:=hh;cases h;exact .slN
   .cases h
  .split at h
   .rename_i hh;obtain⟨rfl,rfl⟩:=hh;cases h;exact .emp _
   .split at h
    .rename_i hh;cases h;exact hh
    .cases h
  .cases h
def B_{w:aF}(h:uT v=ae):jh w n v=U v:=by
 unfold jh;rw[aA h]
def Mg{w:aF}:jh w n (.slice V 0 0)=U (.slice V 0 0):=by
 unfold jh;rw[ax (by decide)];simp
def Mf{w:aF}{x:Addr}:jh w n (.slice (U x) 0 0)=U tC:=by
 unfold jh;rw[ax (by simp[uT])];simp
def qt(w:aF)(n:Nat)(v:I)(len:Nat)(cs:List I):Prop:=
 (v=.slice V 0 0/\len=0)\/(∃x,v=.slice (U x) 0 0/\len=0)\/
 ∃x cap,v=.slice (U x) len cap/\0<cap/\len<=cap/\cap<2^63/\(∀i,i<cap*n->∃u,w.cell? (x.add i)=U u)/\Z cs=len*n/\∀(i:Nat) (c:I),cs[i]?=U c->w.cell? (x.add i)=U c
def UY(A:Mem)(N:Nat->Nat->I->Option I)(n len:Nat)(cs:List I)(x:I):Prop:=
 (x=.slice V 0 0/\len=0)\/(x=tC/\len=0)\/
 ∃q off,x=.slice (U ⟨q,off,V⟩) len (cP len n)/\q<A.next/\(len*n=0\/∃t fz c,A.get q=U (.cells t .row fz c)/\∀(i:Nat) (v u:I),i<len*n->cs[i]?=U v->N q (off+i) v=U u->c.get (off+i)=U u)
variable {i:Nat}
def EX{w:aF}{x:Addr}(hs:x.spot=V)(h:w.cell? (x.add i)=U v):∃cs t fr,w.heap[x.block]?=U (.cells cs t fr)/\cs[x.off+i]?=U v:=by
 obtain⟨xb,xo,xs⟩:=x;simp only at hs;subst hs;rw[om]at h;unfold World.cell? at h;split at h
 .rename_i cs t fr hw;have hw':w.heap[xb]?=U (.cells cs t fr):=hw;simp only[x5,dR,bg]at h;exact⟨cs,t,fr,hw',h⟩
 .cases h
def Nj{w:aF}{x:Addr}(h:w.cell? (x.add 0)=U v):x.spot=V:=by
 have h0:x.add 0=x:=rfl;rw[h0]at h;unfold World.cell? at h;split at h
 .split at h
  .cases h
  .rename_i hn;cases hs:x.spot with
   |none=>rfl
   |some y=>rw[hs]at hn;simp at hn
 .cases h
def qcw{w:aF}{len:Nat}{cs:List I}{N:Nat->Nat->I->Option I}(hn0:0<n)(hn:n<65536)(h:qt w n v len cs):
 ∃x,jh w n v=U x/\UY (pI w 0 N) N n len cs x:=by
 rcases h with⟨rfl,rfl⟩|⟨x,rfl,rfl⟩|⟨x,cap,rfl,hc0,hlc,hcap,hall,hcl,hcell⟩
 .exact⟨_,Mg,.inl ⟨rfl,rfl⟩⟩
 .exact⟨_,Mf,.inr (.inl ⟨rfl,rfl⟩)⟩
 .have hpos:0<cap*n:=Nat.mul_pos hc0 hn0;obtain⟨u0,hu0⟩:=hall 0 hpos;have hsp:=Nj hu0;obtain⟨xb,xo,xs⟩:=x;simp only at hsp;subst hsp;have h1:bV (cP len n)=len:=iW hn;have h2:hY (cP len n)=n:=mH hn;have hnp:¬uT (.slice (U ⟨xb,xo,V⟩) len cap)=ae:=by simp[uT]
  obtain⟨u,hu⟩:=hall (cap*n-1) (by omega);obtain⟨cs',t,fr,hw,hu2⟩:=EX rfl hu;have hsz:=(gm.1 hu2).1;have hblk:xb<w.heap.size:=(gm.1 hw).1;have hreal:VR (qi w []) (.slice (U ⟨xb,xo,V⟩) len (cP len n)) (.slice (U ⟨xb,xo,V⟩) len cap):=by
   refine VR.slX (l:=⟨xb,0,cs'.size⟩) (o':=xo) (Ur hw) (kU _ _) (by rw[h1];exact hlc) ?_ (λ _=>by simp) hcap (by rw[h1];exact aI _);rw[h2];have e:xo+(cap*n-1)<cs'.size:=hsz;show xo+cap*n<=cs'.size;omega
  refine⟨.slice (U ⟨xb,xo,V⟩) len (cP len n),?_,.inr (.inr ⟨xb,xo,rfl,hblk,?_⟩)⟩
  .unfold jh;rw[ax hnp];simp only[ax (show¬(len=0/\cap=0) by omega),aA hreal]
  .by_cases h0:len*n=0
   .exact .inl h0
   .right;refine⟨t,_,_,by rw[Bj,hw];rfl,λ i v u hi hv hu=>PR ?_ hu⟩;obtain⟨cs2,t2,fr2,hw2,hv2⟩:=EX rfl (hcell i v hv);rw[hw]at hw2;cases hw2;rw[gp];exact hv2
end
section
variable {tb:aN}(ok:dO tb){ι:bj}
structure zo where
 f:FuncId
 fn:Func
 c0:aH
 id1:Nat
 o1:Oper
 od:Oper
 c2:aH
 x:Tmp
 g:FuncId
 gf:Func
 id3:Nat
 orc:Oper
 t:Tmp
 c3:aH
structure Hd (tb:aN) (D:zo):Prop where
 hf:tb.fn.get D.f=U D.fn
 hb:D.fn.body=U (.seq D.c0 (.seq (.region D.id1 #[D.o1,D.od] ag) D.c2))
 hod:D.od.op=.defer {callee:=.value (.tmp D.x),args:= #[],argTypes:= #[]}
 go1:D.o1.guard=V
 god:D.od.guard=V
 dod:D.od.dst=V
 hg:tb.fn.get D.g=U D.gf
 hgb:D.gf.body=U (.seq (.region D.id3 #[D.orc] ag) D.c3)
 horc:D.orc.op=.call {callee:=.builtin .recover,args:= #[],argTypes:= #[]}
 dorc:D.orc.dst=U D.t
 gorc:D.orc.guard=V
 ht:D.t<D.gf.ntmps
 hres:D.gf.results= #[]
 hng:(D.gf.name== "runtime.NumGoroutine")=false
def Dg(tb:aN)(D:zo)(n:Nat)(cap:List I)(rv:I)(A:Mem):R Mem:=
 bif av (Z cap) D.gf.ntmps then
  (exec tb n D.c3 {t:=(T.bW .e 0 cap).set D.t rv,n:=D.gf.ntmps,d:=[],m:=A,ro:=V}).bind λ(e,s)=>
  match e with
  |.ef _=>.no 710
  |.exit _=>.no 711
  |_=>ir s.d s.m
 else .no 712
def yF(tb:aN)(D:zo)(n:Nat):List I->Mem->R (I×Mem):=λ args A=>
 bif av (Z args) D.fn.ntmps then
  (exec tb n D.c0 {t:=T.bW .e 0 args,n:=D.fn.ntmps,d:=[],m:=A,ro:=V}).bind λ(e0,s0)=>
  match e0 with
  |.nrm=>(bT tb (exec tb n) D.o1 s0 λ s=>.ok (.nrm,s)).bind λ(e1,s1)=>
   match e1,s1.d,s1.t.get D.x with
   |.nrm,[],U (.func (.func g') first cap)=>bif aL g' D.g then
    (exec tb n D.c2 s1).bind λ(e2,s2)=>
    (match e2 with
     |.ef v=>match s2.d with
      | []=>R.ok (v,s2.m)
      |_=>.no 701
     |.exit _=>.no 702
     |_=>(ir s2.d s2.m).bind λ A1=>.ok (.nilIface,A1)).bind λ(rv,A1)=>
    (Dg tb D n (first.toList++cap.toList) rv A1).bind λ A2=>
    (eF tb s2.t A2.get D.fn.results.toList).bind λ vs=>.ok (oneOf vs,A2)
    else .no 703
   |_,_,_=>.no 704
  |_=>.no 705
 else .no 706
variable {fn:Func}
def NP{P:cI}{f:FuncId}{c:aH}(hf:P.funcs[f]?=U fn)(hb:fn.body=U c)(args:Array I)(kd:CallKind):
 Frame.enter P f args kd=(Frame.enter P f args kd).atR ⟨args++tQ (fn.ntmps-args.size) undef,[]⟩ [.code c]:=by
 simp[Frame.enter,Frame.atR,hf,hb]
section steps
variable {P:cI}{b:Frame}{a:Act}{k:List Item}{cs:List Frame}{w w':aF}{ops:Array Oper}{i:Nat}{rest:List Nat}{o:Oper}
def qhe{d:Deferred}(hr0:b.roundOf=V)(ho:ops[i]?=U o)(hw:Region.wanted o (yielded ops a.tmps)=ae)(hr:(execOp a.eval o).run P w=.ok (.defer d) w')(hd:o.dst=V):
 step P (lone (b.atR a (.inRegion ops (i::rest)::k)) cs w)=.next (lone (b.atR {a with defers:=d::a.defers} (.inRegion ops rest::k)) cs w'):=by
 have hg:=stepGR_op (P:=P) (b:=b) (k:=k) (cs:=cs) (w:=w) (rest:=rest) ho hw;rw[hr0,Oper.semAt_none]at hg;have hfin:({b.atR a (.inRegion ops (i::rest)::k)with defers:=d::a.defers}:Frame).finish undef=b.atR {a with defers:=d::a.defers} (.inRegion ops rest::k):=by
  have:=Frame.finish_atR b {a with defers:=d::a.defers} ops i rest k undef;rw[ho]at this;simp only[vQ,hd,Act.put]at this;exact this
 refine step_lone_go ?_;rw[hg];simp[stepG.apply,hr];exact hfin
def qhg(hr0:b.roundOf=V)(ho:ops[i]?=U o)(hw:Region.wanted o (yielded ops a.tmps)=ae)(hr:(execOp a.eval o).run P w=.ok .recover w')(ht:tryRecover (b.atR a (.inRegion ops (i::rest)::k)) cs=V):
 step P (lone (b.atR a (.inRegion ops (i::rest)::k)) cs w)=.next (lone (b.atR (a.put o.dst .nilIface) (.inRegion ops rest::k)) cs w'):=by
 have hg:=stepGR_op (P:=P) (b:=b) (k:=k) (cs:=cs) (w:=w) (rest:=rest) ho hw;rw[hr0,Oper.semAt_none]at hg;have hfin:∀v,(b.atR a (.inRegion ops (i::rest)::k)).finish v=b.atR (a.put o.dst v) (.inRegion ops rest::k):=by
  intro v;rw[Frame.finish_atR,ho];rfl
 have hro:(b.atR a (.inRegion ops (i::rest)::k)).roundOf=V:=hr0;refine step_lone_go ?_;rw[hg];simp[stepG.apply,hr,hro,ht,hfin]
variable {v:I}
def qhh{cs':List Frame}(hr0:b.roundOf=V)(ho:ops[i]?=U o)(hw:Region.wanted o (yielded ops a.tmps)=ae)(hr:(execOp a.eval o).run P w=.ok .recover w')(ht:tryRecover (b.atR a (.inRegion ops (i::rest)::k)) cs=U (v,cs')):
 step P (lone (b.atR a (.inRegion ops (i::rest)::k)) cs w)=.next (lone (b.atR (a.put o.dst v) (.inRegion ops rest::k)) cs' w'):=by
 have hg:=stepGR_op (P:=P) (b:=b) (k:=k) (cs:=cs) (w:=w) (rest:=rest) ho hw;rw[hr0,Oper.semAt_none]at hg;have hfin:∀v,(b.atR a (.inRegion ops (i::rest)::k)).finish v=b.atR (a.put o.dst v) (.inRegion ops rest::k):=by
  intro v;rw[Frame.finish_atR,ho];rfl
 have hro:(b.atR a (.inRegion ops (i::rest)::k)).roundOf=V:=hr0;refine step_lone_go ?_;rw[hg];simp[stepG.apply,hr,hro,ht,hfin]
def qhl{fr:Frame}{d:Deferred}{ds:List Deferred}{g:FuncId}{args:Array I}(hd:fr.defers=d::ds)(hmode:fr.mode=.returning\/∃ch,fr.mode=.panicking ch)
 (ht:∃t c,d.target=.fn t c)(hr:(invoke d.target d.args).run P w=.ok (.enter g args) w'):
 step P (lone fr cs w)=.next (lone (Frame.enter P g args .deferred) ({fr with defers:=ds}::cs) w'):=by
 obtain⟨t,c,ht⟩:=ht;obtain⟨tg,qi8⟩:=d;simp only at ht hr;subst ht;refine step_lone_go ?_;rcases hmode with hm|⟨ch,hm⟩
 .simp[stepG,unwind,hm,hd,callDeferred,hr]
 .simp[stepG,unwind,hm,hd,callDeferred,hr]
def qhm{fr c:Frame}(hm:fr.mode=.returning)(hd:fr.defers=[])(hk:fr.kind=.deferred)(hf:P.funcs[fr.fn]?=U fn)(hr:(results fn fr.tmps).run P w=.ok v w):
 (c.mode=.returning->step P (lone fr (c::cs) w)=.next (lone c cs w))/\
 (∀x,c.mode=.panicking [{v:=x,recovered:=ae}]->step P (lone fr (c::cs) w)=.next (lone {c with mode:=.returning} cs w)):=by
 refine⟨λ hc=>step_lone_go ?_,λ x hc=>step_lone_go ?_⟩
 .simp[stepG,unwind,hm,hd,hf,hr,doReturn,hk,hc]
 .simp[stepG,unwind,hm,hd,hf,hr,doReturn,hk,hc]
end steps
def Mq{P:cI}{b:Frame}{a:Act}{e:Ex}{k:List Item}{cs:List Frame}{w:aF}(hb:b.roundOf=V)(he:e=.nrm\/e=.ret)(ha:oS e [] k):
 ∃todo,Steps P (lone (b.atR a k) cs w) (lone {b.atR ⟨a.tmps,a.defers⟩ todo with mode:=.returning} cs w):=by
 rcases he with rfl|rfl
 .cases (show k=[]from ha);exact⟨[],.one (stepR_end hb)⟩
 .obtain⟨k2,rfl⟩:=ha;exact⟨_,.one (stepR_ret hb)⟩
variable {D:zo}(hD:Hd tb D)
include ok hD in
def RS {n:Nat} {cap:List I} {rv:I} {A A2:Mem} (h:Dg tb D n cap rv A=.ok A2):
 A.next<=A2.next/\∀(ι:bj) (w:aF) (cap':Array I) (rv':I) (fr:Frame) (cs:List Frame),Rel ι A w->bI ι cap cap'.toList->VR ι rv rv'->eA ι A A2->
  (fr.mode=.returning/\rv'=.nilIface\/fr.mode=.panicking [{v:=rv',recovered:=ag}])->
  ∃ι' w',Steps tb.P (lone (Frame.enter tb.P D.g cap' .deferred) (fr::cs) w) (lone {fr with mode:=.returning} cs w')/\Rel ι' A2 w'/\bY ι A w ι' A2 w':=by
 have hg':=ok.fn _ _ hD.hg;unfold Dg at h;cases hnb:av (Z cap) D.gf.ntmps with
 |false=>rw[hnb]at h;cases h
 |true=>
 rw[hnb,aJ]at h;have hn:=gK hnb;obtain⟨⟨e,s1⟩,h1,h2⟩:=R.aC h;have he:(e=.nrm\/e=.ret)/\ir s1.d s1.m=.ok A2:=by
  cases e with
  |ef _=>cases h2
  |exit _=>cases h2
  |nrm=>exact⟨.inl rfl,h2⟩
  |ret=>exact⟨.inr rfl,h2⟩
 obtain⟨he,h4⟩:=he;have hnx:=DA h4;rcases CE ok n _ _ _ _ h1 with⟨v,rfl,_⟩|⟨hle,hc⟩
 .rcases he with he|he<;>cases he
 refine⟨by rw[hnx];exact hle,λ ι w cap' rv' fr cs hr ha hrv hfree hmode=>?_⟩;have hfree':eA ι A s1.m:=λ b h1 h2=>hfree b h1 (by rw[hnx];exact h2)
 have hent:=NP hg' hD.hgb cap' .deferred;have hro:(Frame.enter tb.P D.g cap' .deferred).roundOf=V:=rfl;have hkd:(Frame.enter tb.P D.g cap' .deferred).kind=.deferred:=rfl;have hdf:(Frame.enter tb.P D.g cap' .deferred).defers=[]:=rfl;have hfn:(Frame.enter tb.P D.g cap' .deferred).fn=D.g:=rfl;generalize Frame.enter tb.P D.g cap' .deferred=b at hent hro hkd hdf hfn;let a0:Act:=⟨cap'++tQ (D.gf.ntmps-cap'.size) undef,[]⟩;have hops:(#[D.orc]:Array Oper)[0]?=U D.orc:=rfl
 have hwant:∀y,Region.wanted D.orc y=ae:=λ y=>by unfold Region.wanted;rw[hD.gorc]
 have hrun:(execOp a0.eval D.orc).run tb.P w=.ok .recover w:=by
  simp only[execOp,hD.horc,resolve,aM,a6,aP,invoke,builtin]
 have s0:Steps tb.P (lone b (fr::cs) w) (lone (b.atR a0 (.inRegion #[D.orc] [0]::[.code D.c3])) (fr::cs) w):=by
  rw[hent];refine .head stepR_seq (.head stepR_region ?_);exact .refl _ _
 obtain⟨fr1,s1',hfr1⟩:∃fr1,Steps tb.P (lone (b.atR a0 (.inRegion #[D.orc] [0]::[.code D.c3])) (fr::cs) w) (lone (b.atR (a0.put D.orc.dst rv') [.code D.c3]) (fr1::cs) w)/\
  (fr.mode=.returning/\fr1=fr\/fr1={fr with mode:=.panicking [{v:=rv',recovered:=ae}]}):=by
  rcases hmode with⟨hm,rfl⟩|hm
  .refine⟨fr,.head (qhg hro hops (hwant _) hrun ?_) (.one stepR_region_end),.inl ⟨hm,rfl⟩⟩;simp[tryRecover,Frame.atR,hkd,hm]
  .refine⟨_,.head (qhh hro hops (hwant _) hrun ?_) (.one stepR_region_end),.inr rfl⟩;simp[tryRecover,Frame.atR,hkd,hm]
 have hs0:SR ι {t:=(T.bW .e 0 cap).set D.t rv,n:=D.gf.ntmps,d:=[],m:=A,ro:=V} b (a0.put D.orc.dst rv') w:=by
  refine⟨hr,?_,hro,?_⟩
  .rw[hD.dorc];exact(TR.args ha hn).set hD.ht hrv
  .rw[hD.dorc];exact hdf.symm
 obtain⟨ι1,w1,a1,k1,st1,ha1,hs1,hss1⟩:=hc ι b _ [] (fr1::cs) w hs0 hfree';obtain⟨todo,st2⟩:=Mq (P:=tb.P) (a:=a1) (cs:=fr1::cs) (w:=w1) hro he ha1;obtain⟨w2,mc,hrel2,hst2⟩:=GH tb.P (b:=b) (t:=a1.tmps) (todo:=todo) (cs:=fr1::cs) h4 hs1.dr hs1.rel;obtain⟨vr,hres,-⟩:=KL ok hrel2 hs1.tr (fn:=D.gf) (vs:=[]) (by rw[hD.hres];rfl);obtain⟨e1,e2⟩:=qhm (P:=tb.P) (cs:=cs) (w:=w2) (fr:={b.atR ⟨a1.tmps,b.defers⟩ todo with mode:=.returning}) (c:=fr1) (fn:=D.gf) rfl hdf hkd (by show tb.P.funcs[b.fn]?=_;rw[hfn];exact hg') hres;refine⟨ι1,w2,(((s0.trans s1').trans st1).trans st2).trans (mc.trans ?_),hrel2,hss1.stp.trans hst2⟩;rcases hfr1 with⟨hm,rfl⟩|rfl
 .have:({fr1 with mode:=.returning}:Frame)=fr1:=by rw[<-hm]
  rw[this];exact .one (e1 hm)
 .exact .one (e2 rv' rfl)
include ok hD in
def Nv (n:Nat):eG tb.P D.f (yF tb D n):=by
 intro args A v A' h;have hf':=ok.fn _ _ hD.hf;have hg':=ok.fn _ _ hD.hg;have hih:=CE ok n;unfold yF at h;cases hnb:av (Z args) D.fn.ntmps with
 |false=>rw[hnb]at h;cases h
 |true=>
 rw[hnb,aJ]at h;have hn:=gK hnb;obtain⟨⟨e0,s0⟩,h0,h⟩:=R.aC h;cases e0 with
 |exit _=>cases h
 |ret=>cases h
 |ef _=>cases h
 |nrm=>
 obtain⟨⟨e1,s1⟩,h1,h⟩:=R.aC h;simp only at h;split at h
 case h_2=>cases h
 rename_i g' first cap hd1 hx
 cases hgg:aL g' D.g with
 |false=>rw[hgg]at h;cases h
 |true=>
 rw[hgg,aJ]at h;obtain rfl:=eW hgg;obtain⟨⟨e2,s2⟩,h2,h⟩:=R.aC h;obtain⟨⟨rv,A1⟩,h3,h⟩:=R.aC h;obtain⟨A2,h4,h⟩:=R.aC h;obtain⟨vs,h5,h⟩:=R.aC h;simp only[ay,bH]at h;obtain⟨rfl,rfl⟩:=h;rcases hih _ _ _ _ h0 with⟨v,he,_⟩|⟨hle0,c0⟩
 .cases he
 rcases Kt ok (Nf ok hih) (ops:= #[D.o1,D.od]) (i:=0) h1 with⟨v,s,he,_⟩|⟨s,he,hle1,c1⟩
 .cases he
 cases he;have hnA2:A1.next<=A2.next:=(RS ok hD h4).1
 have hrec:=(RS ok hD h4).2;have hle2:s1.m.next<=A1.next/\A1.next=s2.m.next:=by
  rcases hih _ _ _ _ h2 with⟨v,rfl,hp⟩|hc
  .simp only at h3;split at h3
   .simp only[ay,bH]at h3;rw[<-h3.2];exact⟨hp.1,rfl⟩
   .cases h3
  .cases e2 with
   |ef v=>
    simp only at h3;split at h3
    .simp only[ay,bH]at h3;rw[<-h3.2];exact⟨hc.1,rfl⟩
    .cases h3
   |exit _=>cases h3
   |nrm=>
    obtain⟨A3,h6,h7⟩:=R.aC h3;simp only[ay,bH]at h7;rw[<-h7.2,DA h6];exact⟨hc.1,rfl⟩
   |ret=>
    obtain⟨A3,h6,h7⟩:=R.aC h3;simp only[ay,bH]at h7;rw[<-h7.2,DA h6];exact⟨hc.1,rfl⟩
 have hn0:A.next<=s0.m.next:=hle0
 refine⟨by omega,λ ι w args' hr ha hfree fr0 cs0=>?_⟩;have hent:=NP hf' hD.hb args' .normal;have hro:(Frame.enter tb.P D.f args' .normal).roundOf=V:=rfl;have hkd:(Frame.enter tb.P D.f args' .normal).kind=.normal:=rfl;have hdf:(Frame.enter tb.P D.f args' .normal).defers=[]:=rfl;have hfn:(Frame.enter tb.P D.f args' .normal).fn=D.f:=rfl;generalize Frame.enter tb.P D.f args' .normal=b at hent hro hkd hdf hfn;have hs:SR ι {t:=T.bW .e 0 args,n:=D.fn.ntmps,d:=[],m:=A,ro:=V} b ⟨args'++tQ (D.fn.ntmps-args'.size) undef,[]⟩ w:=
  ⟨hr,TR.args ha hn,hro,hdf.symm⟩
 obtain⟨ι0,w0,a0,k0,st0,ha0,hs0,hss0⟩:=c0 ι b _ [.code (.seq (.region D.id1 #[D.o1,D.od] ag) D.c2)] (fr0::cs0) w hs (λ x h1 h2=>hfree x h1 (by omega))
 cases (show k0=_ from ha0);have st0':Steps tb.P (lone b (fr0::cs0) w) (lone (b.atR a0 (.inRegion #[D.o1,D.od] [0,1]::[.code D.c2])) (fr0::cs0) w0):=by
  rw[hent];exact(Steps.head stepR_seq st0).trans (.head stepR_seq (.one stepR_region))
 have hw1:∀y,Region.wanted D.o1 y=ae:=λ y=>by unfold Region.wanted;rw[hD.go1]
 have hw2:∀y,Region.wanted D.od y=ae:=λ y=>by unfold Region.wanted;rw[hD.god]
 have hF0:eA ι0 s0.m s1.m:=eA.right (λ x h1 h2=>hfree x h1 (by have:A1.next=s2.m.next:=hle2.2;omega)) hss0.stp;obtain⟨ι1,w1,a1,st1,hs1,hss1⟩:=c1 ι0 b a0 [.code D.c2] (fr0::cs0) w0 [1] hs0 hF0 (hw1 _) rfl;obtain⟨v',hv1,hv2⟩:=hs1.tr.2 _ _ hx;cases hv2 with
 |func _ hfirst hcap=>
 rename_i first' cap' hny;have hev:a1.eval (.tmp D.x)=.func (.func D.g) first' cap':=by
  simp only[Act.eval,LN,hv1,sU]
 obtain⟨dt,hdt1,hdt2⟩:∃dt:Deferred,(execOp a1.eval D.od).run tb.P w1=.ok (.defer dt) w1/\(∃t c,dt.target=.fn t c)/\∀u:aF,(invoke dt.target dt.args).run tb.P u=.ok (.enter D.g (first'++cap')) u:=by
  refine⟨{target:=.fn (.func D.g) cap',args:=first'++ #[]},?_,⟨_,_,rfl⟩,λ u=>?_⟩
  .have e0:(#[]:Array bM).map a1.eval= #[]:=by simp
   simp only[execOp,hD.hod,resolve,hev,Deferred.ofValue,aM,a6,aP,e0]
  .simp only[invoke,callFunc,aM,run_program,aP,hg',hD.hng,hD.hgb,Option.isNone_some,dR,bg,a6,Array.append_empty]
 have hd0:a1.defers=[]:=by
  have:=hs1.dr;rw[hd1,hdf]at this;exact this
 let a2:Act:={a1 with defers:=dt::a1.defers};let b2:Frame:={b with defers:=[dt]};have st2:Steps tb.P (lone (b.atR a1 (.inRegion #[D.o1,D.od] [1]::[.code D.c2])) (fr0::cs0) w1) (lone (b2.atR a2 [.code D.c2]) (fr0::cs0) w1):=
  .head (qhe hro rfl (hw2 _) hdt1 hD.dod) (.one stepR_region_end)
 have hsb:SR ι1 s1 b2 a2 w1:=⟨hs1.rel,hs1.tr,hs1.ro,by
  rw[hd1];show dt::a1.defers=[dt];rw[hd0]⟩
 have hStp1:bY ι A w ι1 s1.m w1:=hss0.stp.trans hss1.stp;have hF1:eA ι1 s1.m s2.m:=eA.right (λ x h1 h2=>hfree x h1 (by have:A1.next=s2.m.next:=hle2.2;omega)) hStp1;have hpre:=(st0'.trans st1).trans st2;have tail:∀(ι2:bj) (w2:aF) (a3:Act) (k3:List Item) (md:FrameMode) (rv':I),Rel ι2 A1 w2->TR ι2 s2.n s2.t a3.tmps->bY ι1 s1.m w1 ι2 A1 w2->gW ι1 ι2->VR ι2 rv rv'->
  (md=.returning/\rv'=.nilIface\/md=.panicking [{v:=rv',recovered:=ag}])->
  ∃ι' w' v',Steps tb.P (lone {b2.atR {a3 with defers:=[dt]} k3 with mode:=md} (fr0::cs0) w2) (lone (fr0.finish v') cs0 w')/\VR ι' (oneOf vs) v'/\Rel ι' A2 w'/\bY ι A w ι' A2 w':=by
  intro ι2 w2 a3 k3 md rv' hrel htr hst hle hrv hmd;have hStp2:bY ι A w ι2 A1 w2:=hStp1.trans hst;have hF2:eA ι2 A1 A2:=eA.right hfree hStp2;have hcaps:bI ι2 (first.toList++cap.toList) (first'++cap').toList:=by
   have h1:=bI.mono hle hfirst;have h2:=bI.mono hle hcap;rw[Array.toList_append];generalize first.toList=l1 at h1
   generalize first'.toList=l2 at h1;clear hfirst
   induction l1 generalizing l2 with
   |nil=>cases h1;exact h2
   |cons x l1 ih=>
    cases h1 with
    |cons hx hl=>exact .cons hx (ih _ hl)
  obtain⟨ι3,w3,mc,hrel3,hst3⟩:=hrec ι2 w2 (first'++cap') rv' {b2.atR {a3 with defers:=[]} k3 with mode:=md} (fr0::cs0) hrel hcaps hrv hF2 hmd;have stc:step tb.P (lone {b2.atR {a3 with defers:=[dt]} k3 with mode:=md} (fr0::cs0) w2)=.next (lone (Frame.enter tb.P D.g (first'++cap') .deferred) ({b2.atR {a3 with defers:=[]} k3 with mode:=md}::fr0::cs0) w2):=
   qhl rfl (by
    rcases hmd with⟨rfl,_⟩|rfl
    .exact .inl rfl
    .exact .inr ⟨_,rfl⟩) hdt2.1 (hdt2.2 w2)
  have hle3:gW ι2 ι3:=hst3.le hF2;obtain⟨v',e1,hv⟩:=KL ok hrel3 (htr.mono hle3) (fn:=D.fn) h5;have hlv:Frame.leaving tb.P {b2.atR {a3 with defers:=[]} k3 with mode:=.returning} w3 (.returned v'):=⟨rfl,rfl,hkd,D.fn,by show tb.P.funcs[b.fn]?=_;rw[hfn];exact hf',e1⟩;exact⟨ι3,w3,v',.head stc (mc.trans (.one (step_leave_returned hlv))),hv,hrel3,hStp2.trans hst3⟩
 rcases hih _ _ _ _ h2 with⟨v,rfl,hle,hp⟩|⟨hle,hc⟩
 .simp only at h3;split at h3
  case h_2=>cases h3
  rename_i hd2;simp only[ay,bH]at h3;obtain⟨rfl,rfl⟩:=h3;obtain⟨ι2,w2,a3,k3,v3,mc,hv3,hs3,hss3⟩:=hp ι1 b2 a2 [] (fr0::cs0) w1 hsb hF1;have hd3:a3.defers=[dt]:=by
   have:=hs3.dr;rw[hd2]at this;exact this
  obtain⟨ι',w',v',st4,r1,r2,r3⟩:=tail ι2 w2 a3 k3 _ v3 hs3.rel hs3.tr hss3.stp (hss3.stp.le hF1) hv3 (.inr rfl);have ea:({a3 with defers:=[dt]}:Act)=a3:=by rw[<-hd3]
  rw[ea]at st4;exact⟨ι',w',v',(hpre.trans mc).trans st4,r1,r2,r3⟩
 .have he:(e2=.nrm\/e2=.ret)/\ir s2.d s2.m=.ok A1/\rv=.nilIface:=by
   cases e2 with
   |ef v=>
    obtain⟨ι2,w2,a3,k3,_,ha,_⟩:=hc ι1 b2 a2 [] (fr0::cs0) w1 hsb hF1;exact ha.elim
   |exit _=>cases h3
   |nrm=>
    obtain⟨A3,h6,h7⟩:=R.aC h3;simp only[ay,bH]at h7;exact⟨.inl rfl,by rw[h6,h7.2],h7.1.symm⟩
   |ret=>
    obtain⟨A3,h6,h7⟩:=R.aC h3;simp only[ay,bH]at h7;exact⟨.inr rfl,by rw[h6,h7.2],h7.1.symm⟩
  obtain⟨he,h6,rfl⟩:=he;obtain⟨ι2,w2,a3,k3,mc,ha3,hs3,hss3⟩:=hc ι1 b2 a2 [] (fr0::cs0) w1 hsb hF1;obtain⟨todo,st4⟩:=Mq (P:=tb.P) (b:=b2) (a:=a3) (cs:=fr0::cs0) (w:=w2) hro he ha3;obtain⟨w3,Dv,hrel3,hst3⟩:=GH tb.P (b:=b2) (t:=a3.tmps) (todo:=todo) (cs:=fr0::cs0) h6 hs3.dr hs3.rel;obtain⟨ι',w',v',st6,r1,r2,r3⟩:=tail ι2 w3 a3 todo _ .nilIface hrel3 hs3.tr (hss3.stp.trans hst3) (hss3.stp.le hF1) .nilIface (.inl ⟨rfl,rfl⟩);exact⟨ι',w',v',(((hpre.trans mc).trans st4).trans Dv).trans st6,r1,r2,r3⟩
end
section
variable {tb:aN}
def QA(x:I):R I:=match x with
 |.pointer (U a)=>.ok (.pointer (U a))
 |.iface a b=>.ok (.iface a b)
 |.map a=>.ok (.map a)
 |.func (.func f) a b=>.ok (.func (.func f) a b)
 |.func (.yield f) a b=>.ok (.func (.yield f) a b)
 |_=>.no 213
def br(a:Addr):QA (.pointer (U a))=.ok (.pointer (U a)):=rfl
variable {dst:Option Tmp}
def bA{ih:aH->St->R (Ex×St)}{ty:au}{pos:String}{after:Array Edge}{g:Option (Nat×Bool)}{s:St}{k:St->R (Ex×St)}(x:bM):bT tb ih {dst,op:=.nilCheck x,type:=ty,pos,after,guard:=g} s k=
 (ev s.t x).bind λ a=>(QA a).bind λ v=>b7 s dst v k:=by
 rw[mT (hc:=rfl) (hi:=rfl)];simp only[ib,R.eI];rfl
def qcg{a b:Int}(h1:-9223372036854775808<=a+b)(h2:a+b<=9223372036854775807):a_ .add .i64 a b=.ok (.int .i64 (a+b)):=by
 show R.ok (Value.int .i64 (eL .i64 (a+b)))=_;rw[qj,xG h1 h2]
theorem GG(m:Nat):∀(vs:List I) (i:Nat) (c:T I),(∀v∈vs,bS v=ae)->(∀j,j<Z vs->(∃y,c.get (i+j)=U y)\/i+j<m)->oe m 0 vs i c=.ok (c.bW i vs)
 | [],_,_,_,_=>rfl
 |v::vs,i,c,h1,h2=>by
  unfold oe;have hb:(bS v&&av 0 i)=ae:=by rw[h1 v (cJ ..)];simp
  have rest:oe m 0 vs (qs i) (c.set i v)=.ok ((c.set i v).bW (qs i) vs):=GG m vs (i+1) (c.set i v) (λ w hw=>h1 w (cV _ hw)) λ j hj=>by
   rw[T.bR];by_cases e:i+1+j=i
   .omega
   .rw[ax e,show i+1+j=i+(j+1) by omega];exact h2 (j+1) (by simp;omega)
  rw[hb,aJ];rcases h2 0 (by simp)with⟨y,hy⟩|hy
  .rw[eo]at hy;rw[hy];exact rest
  .rw[eo]at hy;have hlt:aO i m=ae:=by rw[bZ];exact hy
   cases hc:c.get i with
   |some _=>exact rest
   |none=>simp only[hlt,aJ];exact rest
end
section
variable {tb:aN}
variable {A:Mem}{b o:Nat}{l vs:List I}
def dp.put{e:au}{k:Kd}(h:dp A e b k l)(h1:∀v∈vs,bS v=ae)(h2:o+Z vs<=Z l)(h0:vs≠ []):
 ∃A',lj A ⟨b,o,V⟩ vs=.ok A'/\A'.next=A.next/\(∀x,x≠b->A'.get x=A.get x)/\∀l':List I,Z l'=Z l->(∀j,j<Z l->l'[j]?=if o<=j/\j<o+Z vs then vs[j-o]? else l[j]?)->dp A' e b k l':=by
 obtain⟨c,h3,h4⟩:=h;have hst:oe (AM k) 0 vs o c=.ok (c.bW o vs):=GG _ vs o c h1 λ j hj=>.inl (by
  rw[h4 (o+j) (by omega),aZ (show o+j<Z l by omega)];exact⟨_,rfl⟩)
 refine⟨A.set b (.cells e k 0 (c.bW o vs)),?_,cU _ _ _,λ x hx=>by rw[cN,ax hx],λ l' hl hj=>⟨_,by rw[cN,aA rfl],λ i hi=>?_⟩⟩
 .cases vs with
  |nil=>exact aU rfl h0
  |cons v vs=>
   unfold lj;simp only[h3,hst,R.aW]
 .rw[T.oK,hj i (by omega)];split
  .rfl
  .exact h4 i (by omega)
variable {n i:Nat}{ls:List (List I)}
def Ai(h:∀x∈ls,Z x=n)(hl:Z l=n)(hi:i<Z ls)(j:Nat)(hj:j<Z ls.flatten):
 ((ls.set i l).flatten)[j]?=if i*n<=j/\j<i*n+n then l[j-i*n]? else ls.flatten[j]?:=by
 have h':∀x∈ls.set i l,Z x=n:=λ x hx=>by
  rcases zx hx with hx|rfl
  .exact h x hx
  .exact hl
 rw[ju h]at hj;have hn:0<n:=Nat.pos_of_ne_zero λ e=>by rw[e]at hj;omega
 have hq:j/n<Z ls:=by rw[Hq hn];exact hj
 have hm:j % n<n:=jV _ hn;have e:j=j/n*n+j % n:=by rw[Nat.mul_comm,Nat.div_add_mod]
 have hx:ls[j/n]?=U ls[j/n]:=aZ hq;by_cases hji:j/n=i
 .have hx':(ls.set i l)[j/n]?=U l:=by rw[hji,pL,aA rfl,aA hi]
  rw[hji]at e;rw[aA ⟨by omega,by omega⟩];have:=nU h' (i:=i) (j:=j % n) (by rw[<-hji];rw[hji]at hx'⊢;exact hx') hm;rw[<-e]at this;rw[this];congr 1;omega
 .have hx':(ls.set i l)[j/n]?=U ls[j/n]:=by rw[pL,ax (λ h=>hji h.symm),hx]
  have g1:=nU h' hx' hm;have g2:=nU h hx hm;rw[<-e]at g1 g2;rw[g1,g2,ax];rintro⟨h3,h4⟩;apply hji;have h5:i<=j/n:=(Nat.le_div_iff_mul_le hn).2 h3;have h6:j/n<i+1:=(Hq hn).2 (by rw[qo,uc];exact h4);omega
def aq.store{e t:au}{x:I}(h:aq A e n b ls x)(hs:bk tb t=.ok n)(hn:0<n)(hi:i<Z ls)(hl:Z l=n)(h1:∀v∈l,bS v=ae):
 ∃A',cm tb A t (.pointer (U ⟨b,i*n,V⟩)) (.agg ⟨l⟩)=.ok A'/\aq A' e n b (ls.set i l) x/\A'.next=A.next/\∀y,y≠b->A'.get y=A.get y:=by
 rcases h with⟨rfl,rfl⟩|⟨k,c,rfl,h2,h3,h4,h5⟩
 .simp at hi
 .have hlen:i*n+Z l<=Z ls.flatten:=by
   rw[ju h4,hl];have:=BK n (show i+1<=Z ls from hi);rw[qo,uc]at this;omega
  have h4':∀x∈ls.set i l,Z x=n:=λ x hx=>by
   rcases zx hx with hx|rfl
   .exact h4 x hx
   .exact hl
  obtain⟨A',g1,g2,g3,g4⟩:=h3.put h1 hlen (λ e=>by rw[e]at hl;simp at hl;omega);refine⟨A',?_,.inr ⟨k,c,by rw[dS],by omega,g4 _ (by rw[ju h4',ju h4,dS]) λ j hj=>by rw[Ai h4 hl hi j hj,hl],h4',by rw[dS];exact h5⟩,g2,g3⟩;unfold cm;have hc:(Value.agg ⟨l⟩).cells.toList=l:=rfl;simp only[hs,R.aW,hc,hl,vz,aJ];exact g1
variable {j:Nat}{v:I}
def aq.field{e t:au}{x:I}(h:aq A e n b ls x)(hs:bk tb t=.ok 1)(hi:ls[i]?=U l)(hj:j<n)(hv:v.cells.toList=[v])(h1:bS v=ae):
 ∃A',cm tb A t (.pointer (U ⟨b,i*n+j,V⟩)) v=.ok A'/\aq A' e n b (ls.set i (l.set j v)) x/\A'.next=A.next/\∀y,y≠b->A'.get y=A.get y:=by
 have hil:i<Z ls:=(bU.1 hi).1;rcases h with⟨rfl,rfl⟩|⟨k,c,rfl,h2,h3,h4,h5⟩
 .simp at hil
 .have hl:Z l=n:=h4 l (gJ hi);have hlen:=CQ h4 hil hj;have h4':∀x∈ls.set i (l.set j v),Z x=n:=λ x hx=>by
   rcases zx hx with hx|rfl
   .exact h4 x hx
   .rw[dS];exact hl
  obtain⟨A',g1,g2,g3,g4⟩:=h3.put (o:=i*n+j) (vs:=[v]) (λ w hw=>by rw[dX.1 hw];exact h1) (by rw[fb];omega) (by simp);refine⟨A',?_,.inr ⟨k,c,by rw[dS],by omega,g4 _ (by rw[ju h4',ju h4,dS]) λ m hm=>?_,h4',by rw[dS];exact h5⟩,g2,g3⟩
  .unfold cm;simp only[hs,R.aW,hv,fb,vz,aJ];exact g1
  .rw[Ai h4 (by rw[dS];exact hl) hil m hm,fb];by_cases hin:i*n<=m/\m<i*n+n
   .rw[aA hin,pL];by_cases hmj:j=m-i*n
    .rw[aA hmj,aA (by omega),aA ⟨by omega,by omega⟩];have:m-(i*n+j)=0:=by omega
     rw[this];rfl
    .rw[ax hmj,ax (by omega)];have:=nU h4 hi (j:=m-i*n) (by omega);rw[show i*n+(m-i*n)=m by omega]at this;exact this.symm
   .rw[ax hin,ax (by omega)]
end
section
variable {tb:aN}
def CO(tb:aN)(fn:Func):Ex×St->R (I×Mem)
 |(.nrm,⟨t,_,[],m,_⟩)|(.ret,⟨t,_,[],m,_⟩)=>(eF tb t m.get fn.results.toList).bind λ vs=>.ok (oneOf vs,m)
 |_=>.no 0
def Zf(fn:Func)(t:T I)(n:Nat)(m:Mem)(ro:Option Nat):CO tb fn (.ret,⟨t,n,[],m,ro⟩)=(eF tb t m.get fn.results.toList).bind λ vs=>.ok (oneOf vs,m):=rfl
def Ze(fn:Func)(t:T I)(n:Nat)(m:Mem)(ro:Option Nat):CO tb fn (.nrm,⟨t,n,[],m,ro⟩)=(eF tb t m.get fn.results.toList).bind λ vs=>.ok (oneOf vs,m):=rfl
def okF(tb:aN)(f:FuncId)(fn:Func)(args:List Value):Bool:=fn.body.isSome&&(av args.length fn.ntmps&&(!(fn.name== "runtime.NumGoroutine")&&(tb.hk.get f).isNone))
variable {fn:Func}
def Ko{f:FuncId}{args:List Value}(h:okF tb f fn args=true):(∃c,fn.body=some c/\fn.body.getD .skip=c)/\args.length<=fn.ntmps/\(fn.name== "runtime.NumGoroutine")=false/\tb.hk.get f=none:=by
 unfold okF at h;simp only[dW,Option.isSome_iff_exists,sS,Bool.not_eq_true',Option.isNone_iff_eq_none]at h;obtain⟨⟨c,hc⟩,h1,h2,h3⟩:=h;exact⟨⟨c,hc,by rw[hc];rfl⟩,h1,h2,h3⟩
variable {A A':Mem}{v:I}
def bX{f:FuncId}{args:List I}(g n:Nat)(hf:tb.fn.get f=U fn)(hk:okF tb f fn args=ae)
 (h:∀M,g<=M->(exec tb (M+n) (fn.body.getD .skip) ⟨T.bW .e 0 args,fn.ntmps,[],A,V⟩).bind (CO tb fn)=.ok (v,A')):az tb f args A v A':=by
 obtain⟨⟨c,hc,hcd⟩,hn,hnm,hk⟩:=Ko hk;rw[hcd]at h;refine⟨g+n,λ M hM=>?_⟩;obtain⟨m,rfl⟩:∃m,M=m+n:=⟨M-n,by omega⟩;have:=h m (by omega);unfold cE;simp only[hf,hc,hnm,hk,bJ];unfold pT;rw[show av (Z args) fn.ntmps=ae by rw[sS];exact hn,aJ];cases he:exec tb (m+n) c ⟨T.bW .e 0 args,fn.ntmps,[],A,V⟩with
 |no _=>rw[he]at this;cases this
 |ok r=>
  rw[he,R.aW]at this;rw[R.aW];obtain⟨e,t,k,d,B,ro⟩:=r;cases d with
  |cons _ _=>cases e<;>cases this
  |nil=>
   cases e<;>first|cases this;done|skip
   all_goals
    simp only[CO]at this;simp only[ir,R.aW];cases hr:eF tb t B.get fn.results.toList with
    |no _=>rw[hr]at this;cases this
    |ok vs=>rw[hr]at this;cases this;rfl
def cq{f:FuncId}{args:List I}(n:Nat)(hf:tb.fn.get f=U fn)(hk:okF tb f fn args=ae)
 (h:∀M,(exec tb (M+n) (fn.body.getD .skip) ⟨T.bW .e 0 args,fn.ntmps,[],A,V⟩).bind (CO tb fn)=.ok (v,A')):az tb f args A v A':=bX 0 n hf hk λ M _=>h M
end
def i2{a b:Prop}(x:a)(y:b):a/\b:=⟨x,y⟩
def YH(t:T I):fk t []=.ok []:=rfl
def YG(t:T I)(x:bM)(xs:List bM):fk t (x::xs)=(ev t x).bind λ v=>(fk t xs).bind λ vs=>.ok (v::vs):=rfl
def YC(t:T I):mI t V=.ok V:=rfl
def YD(t:T I)(x:bM):mI t (U x)=(ev t x).bind λ v=>.ok (U v):=rfl
def YF(t:T I):oI t []=.ok []:=rfl
def YE(t:T I)(i:Nat)(x:bM)(xs:List (Nat×bM)):oI t ((i,x)::xs)=(ev t x).bind λ v=>(oI t xs).bind λ vs=>.ok ((i,v)::vs):=rfl
def qc1(s:St)(dst:Option Tmp)(k:St->R (Ex×St))(v:I)(A:Mem):Dh s dst k (.val v A)=b7 {s with m:=A} dst v k:=rfl
def qc0(s:St)(dst:Option Tmp)(k:St->R (Ex×St))(v:I)(A:Mem):Dh s dst k (.ef v A)=.ok (.ef v,{s with m:=A}):=rfl
def qcY(tb:aN)(t:T I)(g:Nat->Option Ob):eF tb t g []=.ok []:=rfl
def qcZ(tb:aN)(t:T I)(g:Nat->Option Ob)(i:Nat)(rs:List ResultVar):eF tb t g (.tmp i::rs)=(ev t (.tmp i)).bind λ v=>(eF tb t g rs).bind λ vs=>.ok (v::vs):=rfl
def qcX(tb:aN)(t:T I)(g:Nat->Option Ob)(i:Nat)(ty:au)(rs:List ResultVar):eF tb t g (.cell i ty::rs)=(ev t (.tmp i)).bind λ a=>(aj tb g ty a).bind λ v=>(eF tb t g rs).bind λ vs=>.ok (v::vs):=rfl
def qb7:oneOf []=.tuple ⟨[]⟩:=rfl
def qb8(v:I):oneOf [v]=v:=rfl
def qb6(a b:I)(l:List I):oneOf (a::b::l)=.tuple ⟨a::b::l⟩:=rfl
def qhE(A:Mem):ir [] A=.ok A:=rfl
def qhD(b:Nat)(bs:List Nat)(A:Mem):ir (b::bs) A=match A.get b with|some .defd=>ir bs (A.set b .dead)|_=>.no 240:=rfl
def qcz(t:T I)(a b:bM):Gf t (.bool ae) a b=ev t a:=rfl
def qcy(t:T I)(a b:bM):Gf t (.bool ag) a b=ev t b:=rfl
def YP(vs:Array I)(i:Nat):Jj (.tuple vs) i=match vs.toList[i]? with|some v=>.ok v|none=>.no 211:=rfl
def qic:cQ=.tuple ⟨[]⟩:=rfl
def cu(f:Func):aH:=f.body.getD .skip
def VY(f:Func):cu f=f.body.getD .skip:=rfl
def Aq:=
 i2 @VY<|
 i2 @Zf<|
 i2 @Ze<|
 i2 @YH<|
 i2 @YG<|
 i2 @YC<|
 i2 @YD<|
 i2 @YF<|
 i2 @YE<|
 i2 @qc1<|
 i2 @qc0<|
 i2 @qcY<|
 i2 @qcZ<|
 i2 @qcX<|
 i2 @qb7<|
 i2 @qb8<|
 i2 @qb6<|
 i2 @qhE<|
 i2 @qhD<|
 i2 @qcz<|
 i2 @qcy<|
 i2 @YP<|
 i2 @cond_true.{1}<|
 i2 @cond_false.{1}<|
 i2 @T.gS<|
 i2 @T.jR<|
 i2 @CD<|
 i2 @CC<|
 i2 @Qt<|
 i2 @N8<|
 i2 @Fj<|
 i2 @N_<|
 i2 @N9<|
 i2 @N7<|
 i2 @Jh<|
 i2 @R'<|
 i2 @Sa<|
 i2 @Q7<|
 i2 @QQ<|
 i2 @QP<|
 i2 @Q8<|
 i2 @QX<|
 i2 @Ra<|
 i2 @Q1<|
 i2 @Q2<|
 i2 @Q0<|
 i2 @QZ<|
 i2 @QS<|
 i2 @Q_<|
 i2 @QY<|
 i2 @Q9<|
 i2 @Q4<|
 i2 @QO<|
 i2 @QR<|
 i2 @QT<|
 i2 @Q5<|
 i2 @Q'<|
 i2 @QW<|
 i2 @Q3<|
 i2 @Q6<|
 i2 @QU<|
 i2 @QV<|
 i2 @qP<|
 i2 @qO<|
 i2 @N2<|
 i2 @NY<|
 i2 @N5<|
 i2 @R.aW<|
 i2 @RI<|
 i2 @RH<|
 i2 @T.bR<|
 i2 @T.pv<|
 i2 @MG<|
 i2 @C_<|
 i2 @Rm<|
 i2 @Rq<|
 i2 @Rj<|
 i2 @Rg<|
 i2 @Ku<|
 i2 @Rb<|
 i2 @Rp<|
 i2 @Rf<|
 i2 @Rr<|
 i2 @Rk<|
 i2 @MJ<|
 i2 @MK<|
 i2 @Ri<|
 i2 @Rl<|
 i2 @Re<|
 i2 @MH<|
 i2 @DK<|
 i2 @LI<|
 i2 @Ql<|
 i2 @J'<|
 i2 @Nu<|
 i2 @t_<|
 i2 @zD<|
 i2 @if_true.{1}<|
 i2 @if_false.{1}<|
 i2 @ne_eq.{1}<|
 i2 @not_true_eq_false<|
 i2 @not_false_eq_true<|
 i2 @decide_true<|
 i2 @decide_false<|
 i2 @dR<|
 i2 @ri<|
 i2 @vg<|
 i2 @TM<|
 i2 @TQ<|
 i2 @TS<|
 i2 @TJ<|
 i2 @TK<|
 i2 @TI<|
 i2 @TL<|
 i2 @TP<|
 i2 @TN<|
 i2 @TO<|
 i2 @sU.{0}<|
 i2 @Mt<|
 i2 @Cf<|
 i2 @Sd<|
 i2 @Sb<|
 i2 @N6<|
 i2 @Rn<|
 i2 @Ro<|
 i2 @Rh<|
 i2 @ML<|
 i2 @AT<|
 i2 @Ln<|
 i2 @Lm<|
 i2 @Cw<|
 i2 @uC<|
 i2 @a7<|
 i2 @VZ<|
 i2 @Ci<|
 i2 @Ga<|
 i2 @bne_self_eq_false.{0}<|
 i2 @beq_self_eq_true.{0}<|
 i2 @eq_self.{1}<|
 i2 @Nl<|
 i2 @yC<|
 i2 @builtin_append<|
 i2 @wO<|
 i2 @Ac<|
 i2 @eY<|
 i2 @N4<|
 i2 @ki<|
 i2 @qcd<|
 i2 @XQ<|
 i2 @XR<|
 i2 @tM<|
 i2 @dM<|
 i2 @iZ<|
 i2 @gA<|
 i2 @dK<|
 i2 @lL.{0}<|
 i2 @iP.{0}<|
 i2 @jT.{0}<|
 @qh3
def Fq:=
 i2 @qdi<|
 i2 @qdg<|
 i2 @qdh<|
 i2 @qde<|
 i2 @qdf<|
 i2 @qdn<|
 i2 @qdl<|
 i2 @qdm<|
 i2 @qdj<|
 i2 @qdk<|
 i2 @U6<|
 i2 @U4<|
 i2 @Dq<|
 i2 @qgn<|
 i2 @qgp<|
 i2 @qgo<|
 i2 @qgq<|
 i2 @qgs<|
 i2 @qgr<|
 i2 @qcS<|
 i2 @qcR<|
 i2 @qcU<|
 i2 @qcT<|
 i2 @qcW<|
 i2 @qcV<|
 i2 @qcJ<|
 i2 @Po<|
 i2 @Vm<|
 i2 @sQ.{0,0}<|
 i2 @sK<|
 i2 @tR<|
 @Bool.and_self
def Wq:=
 i2 @Ut<|
 i2 @Us<|
 i2 @NK<|
 i2 @NJ<|
 i2 @T.bR<|
 i2 @T.pv<|
 i2 @if_true.{1}<|
 i2 @if_false.{1}<|
 i2 @Uu<|
 i2 @Uv<|
 i2 @cond_true.{1}<|
 i2 @cond_false.{1}<|
 i2 @ri<|
 i2 @vg<|
 i2 @qic<|
 @List.toList_toArray.{0}
abbrev pw (b o:Nat):I:=.pointer (U ⟨b,o,V⟩)
abbrev wN (n:Nat):I:=.int .u32 n
abbrev bN (n:Nat):I:=.int .u8 n
abbrev uN (n:Nat):I:=.int .u64 n
abbrev iN (n:Nat):I:=.int .i64 n
section
variable {tb:aN}
def Sq:=i2 @U0<|i2 @U1<|i2 @T.bR<|i2 @T.gS<|i2 @T.jR<|i2 @if_true.{1}<|i2 @if_false.{1}<|i2 @and_true<| @true_and
variable {s':St}
def W.q{a b:aH}{s:St}{K:Ex->St->Prop}(h:∀M,exec tb (M+20) a s=.ok (.nrm,s'))(k:W tb b s' K):W tb (.seq a b) s K:=W.seq (W.run 20 h k)
def W.qG{a b:aH}{s:St}{K:Ex->St->Prop}(g:Nat)(h:∀M,g<=M->exec tb (M+20) a s=.ok (.nrm,s'))(k:W tb b s' K):W tb (.seq a b) s K:=W.seq (W.cC g 20 h k)
def W.ic{a b c:aH}{s:St}{K:Ex->St->Prop}(g:Nat)
 (h:∀M,g<=M->∀k:St->R (Ex×St),((exec tb (M+20) a s).bind λ(e,s1)=>match e with
  |.nrm=>(exec tb (M+19) b s1).bind λ(e,s2)=>match e with
   |.nrm=>k s2
   |e=>.ok (e,s2)
  |e=>.ok (e,s1))=k s')(k:W tb c s' K):W tb (.seq a (.seq b c)) s K:=by
 obtain⟨e,s2,⟨f,h1⟩,h2⟩:=k;refine⟨e,s2,⟨g+f+21,λ m=>?_⟩,h2⟩;have h3:=h (m+g+f) (by omega) (exec tb (m+g+f+19) c);have h4:=h1 (m+g+19);rw[show m+g+19+f=m+g+f+19 by omega]at h4;rw[<-h4,<-h3,show m+(g+f+21)=(m+g+f+20)+1 by omega,CD];congr 1
def W.q2{a b c:aH}{s:St}{K:Ex->St->Prop}
 (h:∀M,∀k:St->R (Ex×St),((exec tb (M+20) a s).bind λ(e,s1)=>match e with
  |.nrm=>(exec tb (M+19) b s1).bind λ(e,s2)=>match e with
   |.nrm=>k s2
   |e=>.ok (e,s2)
  |e=>.ok (e,s1))=k s')(k:W tb c s' K):W tb (.seq a (.seq b c)) s K:=W.ic 0 (λ M _=>h M) k
end
abbrev zA:=List (List I×I)
def yX(a b:List I):Bool:=aL (Z a) (Z b)&&(a.zip b).all λ p=>dD 100 p.1 p.2
theorem SY:∀{a b:List I},yX a b=ae->a=b
 | [],[],_=>rfl
 | [],_::_,h=>by cases h
 |_::_,[],h=>by cases h
 |x::a,y::b,h=>by
  unfold yX at h;rw[dW]at h;obtain⟨h1,h2⟩:=h;rw[List.zip_cons_cons,DV,dW]at h2;have h3:Z a=Z b:=by have:=eW h1;simpa using this
  have h4:yX a b=ae:=by unfold yX;rw[dW];exact⟨by rw[qp];exact h3,h2.2⟩
  rw[yY 100 x y h2.1,SY h4]
def tL:zA->List I->Option I
 | [],_=>V
 |p::l,args=>bif yX p.1 args then U p.2 else tL l args
theorem Qh:∀{l:zA} {args:List I} {v:I},tL l args=U v->(args,v)∈l
 | [],_,_,h=>by cases h
 |p::l,args,v,h=>by
  have h':(bif yX p.1 args then U p.2 else tL l args)=U v:=h;cases hs:yX p.1 args with
  |true=>
   rw[hs,aJ]at h';cases h';rw[<-SY hs];exact cJ ..
  |false=>
   rw[hs,bJ]at h';exact cV _ (Qh h')
def isVal(r:R nh)(v:I):Bool:=
 match r with
 |.ok (.val u _)=>dD 100 u v
 |_=>ag
def FY(tb:aN)(n:Nat)(f:FuncId)(l:zA):Bool:=l.all λ p=>p.1.all (flat 9)&&flat 9 p.2&&isVal (call tb n f p.1 ee) p.2
variable {tb:aN}{fn:Func}{n:Nat}
def qbu(ok:dO tb){f:FuncId}{c:aH}{l:zA}(hf:tb.fn.get f=U fn)(hb:fn.body=U c)(h:FY tb n f l=ae):dO (tb.nX f (cH (tL l))):=by
 refine fq ok (qb ok hf hb λ args v hv=>?_);have h1:=oT.1 h _ (Qh hv);simp only[dW]at h1;obtain⟨⟨h2,h3⟩,h4⟩:=h1;refine⟨λ x hx=>oT.1 h2 x hx,h3,n,?_⟩;unfold isVal at h4;split at h4
 .rename_i u A e;rw[<-yY _ _ _ h4];exact⟨A,e⟩
 .cases h4
end Go.Am
namespace Go.Proofs.YtjoceidiioppiaaGreatDoor.sto
open Go.Am
noncomputable def exts:T Nat:=((((T.e.set 180 4).set 243 5).set 244 1).set 245 3)
def YK:vn 4 Tryz.f180:=⟨by kernel_rfl,by kernel_rfl,by kernel_rfl,by show Extern.find Tryz.f180=U Extern.MapsClone.clone;kernel_rfl⟩
def YL:vn 5 Tryz.f243:=⟨by kernel_rfl,by kernel_rfl,by kernel_rfl,by show Extern.find Tryz.f243=(Extern.MathBitsCarry.rows[0]?).map (·.2);kernel_rfl⟩
def YM:vn 1 Tryz.f244:=⟨by kernel_rfl,by kernel_rfl,by kernel_rfl,by show Extern.find Tryz.f244=U Extern.AbiNoEscape.same;kernel_rfl⟩
def YN:vn 3 Tryz.f245:=⟨by kernel_rfl,by kernel_rfl,by kernel_rfl,by show Extern.find Tryz.f245=U (Extern.BytealgMakeNoZero.makeNoZero Tryz.f245.params Tryz.f245.resultTypes);kernel_rfl⟩
def YQ:∀f k fn,exts.get f=U k->ug.prog.funcs[f]?=U fn->vn k fn:=by
 intro f k fn h hf;unfold exts at h;simp only[T.bR,T.pv]at h;split at h
 .rename_i e;subst e;cases h;cases iR (hf.symm.trans Tryz.func245);exact YN
 split at h
 .rename_i e;subst e;cases h;cases iR (hf.symm.trans Tryz.func244);exact YM
 split at h
 .rename_i e;subst e;cases h;cases iR (hf.symm.trans Tryz.func243);exact YL
 split at h
 .rename_i e;subst e;cases h;cases iR (hf.symm.trans Tryz.func180);exact YK
 cases h
noncomputable def aT:aN:=Ls ug.prog exts
def lr:dO aT:=TZ ug _ YQ
variable {k:Nat}{fn:Func}
def cM(h:dw.funcs[k]?=U fn):aT.fn.get k=U fn:=by
 show(T.ofList ug.prog.funcs.toList).get k=_;rw[T.Ao,gp];exact h
section
section
variable {tb:aN}{ih:aH->St->R (Ex×St)}
variable (dst:Option Tmp)(ty:au)(pos:String)(after:Array Edge)(g:Option (Nat×Bool))(s:St)(k:St->R (Ex×St))
def F_(t:au)(r:Option bM):bT tb ih {dst,op:=.makeMap t r,type:=ty,pos,after,guard:=g} s k=
 (mI s.t r).bind λ r=>(uQ tb t r).bind λ(ob,way)=>b7 {s with m:=s.m.alloc ob} dst (way.at s.m.next) k:=by
 rw[AJ _ _ _ _ _ _ _ rfl rfl];simp only[lS,R.eI]
def C9(t:au)(m x v:bM):bT tb ih {dst,op:=.mapUpdate t m x v,type:=ty,pos,after,guard:=g} s k=
 (ev s.t m).bind λ m=>(ev s.t x).bind λ x=>(ev s.t v).bind λ v=>(pA tb s.m t m x v).bind λ A=>b7 {s with m:=A} dst cQ k:=by
 unfold bT;show((oM tb s.t s.m (.mapUpdate t m x v)).bind λ(v,A)=>b7 {s with m:=A} dst v k)=_;simp only[oM,R.eI,R.aW]
def xa(t:au)(m x:bM)(b:Bool):bT tb ih {dst,op:=.lookup t m x b,type:=ty,pos,after,guard:=g} s k=
 (ev s.t m).bind λ m=>(ev s.t x).bind λ x=>(qf tb s.m.get t m x b).bind λ v=>b7 s dst v k:=by
 rw[uS _ _ _ _ _ _ _ rfl rfl];simp only[eR,R.eI]
def KC(t:T I)(g:Nat->Option Ob)(e:au)(m x:bM)(b:Bool):eR tb t g (.lookup e m x b)=(ev t m).bind λ m=>(ev t x).bind λ x=>qf tb g e m x b:=rfl
end
def Nk(b:Bool):(Value.bool b).cells.toList=[.bool b]:=rfl
def XX(b:Option Nat):(Value.map b).cells.toList=[.map b]:=rfl
def uD(b:Option Addr):(Value.pointer b).cells.toList=[.pointer b]:=rfl
def Eu(b:Nat):Way.mp.at b=.map (U b):=rfl
variable {tb:aN}
def u7:aT.aB 3=U (.int .i64):=by kernel_rfl
def Bh:aT.aB 4=U .bool:=by kernel_rfl
def kx:aT.aB 5=U (.int .u8):=by kernel_rfl
def mh:aT.aB 9=U .string:=by kernel_rfl
def pG:aT.aB 113=U (.int .u64):=by kernel_rfl
def Kp(A A':Mem):Prop:=A.next<=A'.next/\∀z,z<A.next->A'.get z=A.get z
def Kp.refl(A:Mem):Kp A A:=⟨aI _,λ _ _=>rfl⟩
variable {A B C:Mem}
def Kp.trans(h:Kp A B)(k:Kp B C):Kp A C:=⟨dm h.1 k.1,λ z hz=>by rw[k.2 z (by have:=h.1;omega),h.2 z hz]⟩
def Kp.alloc(A:Mem)(o:Ob):Kp A (A.alloc o):=⟨by rw[aG];omega,λ z hz=>cY (by omega)⟩
def VB(A:Mem)(e:au)(b:Nat)(k:Kd)(l:List I):Prop:=b<A.next/\dp A e b k l
variable {A':Mem}{b:Nat}{l:List I}
def VB.kp{e:au}{k:Kd}(h:VB A e b k l)(q:Kp A A'):VB A' e b k l:=⟨c9 h.1 q.1,h.2.same (q.2 b h.1)⟩
variable {o:Nat}{v:I}
def VB.ld{e t:au}{d:TypeDesc}{k:Kd}(h:VB A e b k l)(hv:l[o]?=U v)(hu:tb.aB t=U d)(ha:en d=ag):aj tb A.get t (pw b o)=.ok v:=dg hu ha h.2 hv
def Fin(tb:aN)(fn:Func)(v:I)(A':Mem)(e:Ex)(s:St):Prop:=(e=.nrm\/e=.ret)/\s.d=[]/\s.m=A'/\(eF tb s.t A'.get fn.results.toList).bind (λ vs=>.ok (oneOf vs))=.ok v
def wg{f:FuncId}{c:aH}{args:List I}(hf:tb.fn.get f=U fn)(hb:fn.body=U c)(ho:okF tb f fn args=ae)
 (h:W tb c ⟨T.bW .e 0 args,fn.ntmps,[],A,V⟩ (Fin tb fn v A')):az tb f args A v A':=by
 obtain⟨-,hn,hnm,hk⟩:=Ko ho;obtain⟨v',B,hg,rfl,rfl⟩:∃v' B,az tb f args A v' B/\v'=v/\B=A':=by
  refine pS hf hb hn hnm hk (h.mono λ e s hs=>?_);obtain⟨h1,h2,h3,h4⟩:=hs;rw[h2,h3];cases hr:eF tb s.t A'.get fn.results.toList with
  |no _=>rw[hr]at h4;cases h4
  |ok vs=>
   rw[hr]at h4;exact⟨h1,A',vs,rfl,hr,by cases h4;rfl,rfl⟩
 exact hg
def FT(a b:List UInt8):wZ (ai a) (ai b)=U (decide (a=b)):=by
 show U (oz a b)=_;rw[pU];congr 1;by_cases h:a=b<;>simp[h]
def qaN(k:cS)(a b:Int):wZ (.int k a) (.int k b)=U (decide (a=b)):=by
 show(bif jv k k then U (kV a b)else V)=_;rw[JL,show jv k k=ae by cases k<;>rfl];rfl
def dL:List (List UInt8)->Nat->List MapEntry
 | [],_=>[]
 |n::ns,o=>⟨ai n,.int .i64 (o+1:Nat),o⟩::dL ns (o+1)
theorem Kc(w:List UInt8):∀(ns:List (List UInt8)) (o j:Nat),findF (ai w) (dL ns o) j=U ((ns.findIdx? λ n=>decide (w=n)).map λ i=>(j+i,.int .i64 (o+i+1:Nat)))
 | [],o,j=>rfl
 |n::ns,o,j=>by
  unfold dL findF;simp only[FT,List.findIdx?_cons];by_cases h:w=n
  .simp[h]
  .simp only[h,decide_false,dR,bg];show findF _ _ (j+1)=_;rw[Kc w ns (o+1) (j+1)];cases ns.findIdx? λ n=>decide (w=n)with
   |none=>rfl
   |some i=>simp[xU,Nat.add_left_comm];omega
def mM:List Nat->Nat->List MapEntry
 | [],_=>[]
 |p::ps,o=>⟨.int .i64 (o+1:Nat),.pointer (U ⟨p,0,V⟩),o⟩::mM ps (o+1)
theorem Jv(q:Nat):∀(ps:List Nat) (o j:Nat),o<=q->findF (.int .i64 (q+1:Nat)) (mM ps o) j=U ((ps[q-o]?).map λ p=>(j+(q-o),.pointer (U ⟨p,0,V⟩)))
 | [],o,j,_=>by simp[mM,findF]
 |p::ps,o,j,h=>by
  unfold mM findF;simp only[qaN];by_cases hq:q=o
  .subst hq;simp
  .rw[decide_eq_false (by omega)];show findF _ _ (j+1)=_;rw[Jv q ps (o+1) (j+1) (by omega),show q-o=(q-(o+1))+1 by omega,dc];cases ps[q-(o+1)]? with
   |none=>rfl
   |some p=>simp only[gX];congr 2;simp;omega
end
section
variable {tb:aN}{A:Mem}{e t:au}{d:TypeDesc}{b:Nat}{k:Kd}{v x0 x1 x2 x3 x4:I}{l:List I}
def VB.l0(h:VB A e b k (v::l))(hu:tb.aB t=U d)(ha:en d=ag):aj tb A.get t (pw b 0)=.ok v:=h.ld rfl hu ha
def VB.l1(h:VB A e b k (x0::v::l))(hu:tb.aB t=U d)(ha:en d=ag):aj tb A.get t (pw b 1)=.ok v:=h.ld rfl hu ha
def VB.l2(h:VB A e b k (x0::x1::v::l))(hu:tb.aB t=U d)(ha:en d=ag):aj tb A.get t (pw b 2)=.ok v:=h.ld rfl hu ha
def VB.l3(h:VB A e b k (x0::x1::x2::v::l))(hu:tb.aB t=U d)(ha:en d=ag):aj tb A.get t (pw b 3)=.ok v:=h.ld rfl hu ha
def VB.l5(h:VB A e b k (x0::x1::x2::x3::x4::v::l))(hu:tb.aB t=U d)(ha:en d=ag):aj tb A.get t (pw b 5)=.ok v:=h.ld rfl hu ha
def VB.m1(h:VB A e b k (x0::v::l))(hu:tb.aB t=U d)(ha:en d=ag):aj tb A.get t (pw b (0+1))=.ok v:=h.ld rfl hu ha
def VB.m2(h:VB A e b k (x0::x1::v::l))(hu:tb.aB t=U d)(ha:en d=ag):aj tb A.get t (pw b (0+2))=.ok v:=h.ld rfl hu ha
end
end Go.Proofs.YtjoceidiioppiaaGreatDoor.sto
namespace Go.Am
namespace T
variable {α:Type}
def qcG(x y:α):∀(f:Nat) (t:T α) (k:Nat),put x f (put y f t k) k=put x f t k:=by
 intro f
 induction f with
 |zero=>intro t k;rfl
 |succ f ih=>
  intro t k;cases t with
  |e=>
   rw[Df,Df];split
   .rw[qg,aA (by assumption)]
   .split
    .rw[qg,ax (by assumption),aA (by assumption),ih]
    .rw[qg,ax (by assumption),ax (by assumption),ih]
  |n l v r=>
   rw[qg,qg x f k l r v];split
   .rw[qg,aA (by assumption)]
   .split
    .rw[qg,ax (by assumption),aA (by assumption),ih]
    .rw[qg,ax (by assumption),ax (by assumption),ih]
def put_comm(x y:α):∀(f g:Nat) (t:T α) (k j:Nat),k≠j->put x f (put y g t j) k=put y g (put x f t k) j:=by
 intro f
 induction f with
 |zero=>intro g t k j _;rfl
 |succ f ih=>
  intro g t k j h;cases g with
  |zero=>rfl
  |succ g=>
   cases t with
   |e=>
    rw[Df,Df];by_cases k0:k=0<;>by_cases j0:j=0<;>by_cases k1:k % 2=1<;>by_cases j1:j % 2=1<;>
     first
     |(exfalso;omega)
     |(simp only[k0,j0,k1,j1,bB,bg,qg];first|done|rfl|(rw[ih];omega)|(congr 1;try (rw[ih];omega)))
   |n l v r=>
    rw[qg,qg];by_cases k0:k=0<;>by_cases j0:j=0<;>by_cases k1:k % 2=1<;>by_cases j1:j % 2=1<;>
     first
     |(exfalso;omega)
     |(simp only[k0,j0,k1,j1,bB,bg,qg];first|done|rfl|(rw[ih];omega)|(congr 1;try (rw[ih];omega)))
def set_set(t:T α)(k:Nat)(x y:α):(t.set k y).set k x=t.set k x:=qcG x y _ t k
variable {k j:Nat}
def set_comm(t:T α)(x y:α)(h:k≠j):(t.set j y).set k x=(t.set k x).set j y:=put_comm x y _ _ t k j h
theorem KA:∀(l:List α) (t:T α) (i k:Nat) (x:α),k<i->(t.bW i l).set k x=(t.set k x).bW i l
 | [],_,_,_,_,_=>rfl
 |y::l,t,i,k,x,h=>by
  rw[gS,gS,KA l _ (i+1) k x (by omega),set_comm _ _ _ (by omega)]
theorem RM:∀(l l':List α) (t:T α) (i:Nat),Z l'=Z l->(t.bW i l).bW i l'=t.bW i l'
 | [],[],_,_,_=>rfl
 |x::l,y::l',t,i,h=>by
  rw[gS,gS,gS,KA _ _ _ _ _ (ua i),set_set];exact RM l l' _ (i+1) (by simpa using h)
theorem RK:∀(l:List α) (t:T α) (i o:Nat) (x:α),o<Z l->(t.bW i l).set (i+o) x=t.bW i (l.set o x)
 |y::l,t,i,0,x,_=>by
  rw[eo,gS,KA _ _ _ _ _ (ua i),set_set];rfl
 |y::l,t,i,o+1,x,h=>by
  rw[gS,show i+(o+1)=(i+1)+o by omega,RK l _ (i+1) o x (by simpa using h)];rfl
end T
def S8(A:Mem)(o o':Ob):(A.alloc o).set A.next o'=A.alloc o':=by
 show Mem.mk ((A.heap.set A.next o).set A.next o') _=Mem.mk _ _;rw[T.set_set];rfl
variable {tb:aN}
variable {A:Mem}{l:List I}
def P8{e t:au}(hs:bk tb t=.ok (Z l))(ht:(tb.aB t).map en=U ae):aj tb (A.alloc (af e l)).get t (.pointer (U ⟨A.next,0,V⟩))=.ok (.agg ⟨l⟩):=by
 cases hu:tb.aB t with
 |none=>rw[hu]at ht;cases ht
 |some d=>rw[hu]at ht;exact cg hu (by simpa using ht) hs (xF A e l)
variable {v:I}
def fP{t e:au}{l':List I}(hs:bk tb t=.ok (Z l'))(hc:v.cells.toList=l')(hl:Z l'=Z l)(h0:l≠ [])(h1:∀v∈l',bS v=ae):
 cm tb (A.alloc (af e l)) t (.pointer (U ⟨A.next,0,V⟩)) v=.ok (A.alloc (af e l')):=by
 have hg:(A.alloc (af e l)).get A.next=U (.cells e (.var (Z l)) 0 (T.bW .e 0 l)):=de _ _
 unfold cm;simp only[hs,R.aW,hc];rw[show aL (Z l') (Z l')=ae by rw[qp],aJ];unfold lj;have h0':l'≠ []:=λ h=>h0 (eN.1 (by rw[<-hl,h];rfl))
 have hst:=GG (AM (.var (Z l))) l' 0 (T.bW .e 0 l) h1 λ j hj=>.inl ⟨l[j]'(by omega),by rw[T.oK,aA (by omega)];simp[aZ (show j<Z l by omega)]⟩
 cases l' with
 |nil=>exact aU rfl h0'
 |cons y l'=>
  simp only[hg,hst,R.aW];rw[T.RM _ _ _ _ hl,S8];unfold af;rw[hl]
variable {o:Nat}
def se{t e:au}(hs:bk tb t=.ok 1)(hc:v.cells.toList=[v])(h1:bS v=ae)(ho:o<Z l):
 cm tb (A.alloc (af e l)) t (pw A.next o) v=.ok (A.alloc (af e (l.set o v))):=by
 have hg:(A.alloc (af e l)).get A.next=U (.cells e (.var (Z l)) 0 (T.bW .e 0 l)):=de _ _
 have hst:=GG (AM (.var (Z l))) [v] o (T.bW .e 0 l) (by simpa using h1) λ j hj=>.inl (by
  have:j=0:=by simpa using hj
  subst this;exact⟨l[o],by rw[T.oK,aA (by omega)];simp[aZ ho]⟩)
 unfold cm;simp only[hs,R.aW,hc];show lj _ _ [v]=_;unfold lj;simp only[hg,hst,R.aW];have hp:=T.RK l .e 0 o v ho;rw[ep]at hp;rw[T.gS,T.jR,hp,S8];unfold af;rw[dS]
end Go.Am
namespace Go.Proofs.YtjoceidiioppiaaGreatDoor.sto
open Go.Am
end Go.Proofs.YtjoceidiioppiaaGreatDoor.sto
namespace Go.Proofs.YtjoceidiioppiaaGreatDoor.sto
open Go.Am
variable {n:Nat}
def fM(h:n<18446744073709551616):di .u64 (n:Int)=ae:=by
 show aO n (2^64)=ae;rw[bZ];exact h
def ct(h:n<9223372036854775808):di .i64 (n:Int)=ae:=by
 show aO n (2^63)=ae;rw[bZ];exact h
def qc(h:n<256):di .u8 (n:Int)=ae:=by
 show aO n 256=ae;rw[bZ];exact h
def zg{k:cS}(h:di k (n:Int)=ae):eL k (n:Int)=(n:Int):=by unfold eL;rw[h];rfl
variable {tb:aN}{k':cS}
def eX{s d:au}{k:cS}(hs:(tb.aB s).isSome=ae)(hd:tb.aB d=U (.int k'))(h:di k' (n:Int)=ae):j' tb s d (.int k (n:Int))=.ok (.int k' (n:Int)):=by
 have e:j' tb s d (.int k (n:Int))=.ok (.int k' (eL k' (n:Int))):=by
  unfold j';rw[hd];cases hq:tb.aB s with
  |none=>rw[hq]at hs;cases hs
  |some _=>rfl
 rw[e,zg h]
def Yc{s d:au}{k:cS}(hs:(tb.aB s).isSome=ae)(hd:tb.aB d=U (.int .u8)):j' tb s d (.int k (n:Int))=.ok (.int .u8 (n % 256:Nat)):=by
 have e:j' tb s d (.int k (n:Int))=.ok (.int .u8 (eL .u8 (n:Int))):=by
  unfold j';rw[hd];cases hq:tb.aB s with
  |none=>rw[hq]at hs;cases hs
  |some _=>rfl
 rw[e,DK]
variable {b:Nat}
def e_{k:cS}{a:Nat}(h:di k ((a+b:Nat):Int)=ae):a_ .add k (a:Int) (b:Int)=.ok (.int k ((a+b:Nat):Int)):=by
 show R.ok (Value.int k (eL k ((a:Int)+(b:Int))))=_;rw[show(a:Int)+(b:Int)=((a+b:Nat):Int) by omega,zg h]
def eQ{k:cS}{a:Nat}(hb:b<=a)(h:di k ((a-b:Nat):Int)=ae):a_ .sub k (a:Int) (b:Int)=.ok (.int k ((a-b:Nat):Int)):=by
 show R.ok (Value.int k (eL k ((a:Int)-(b:Int))))=_;rw[show(a:Int)-(b:Int)=((a-b:Nat):Int) by omega,zg h]
def AK{k:cS}{a:Nat}(h:di k ((a*b:Nat):Int)=ae):a_ .mul k (a:Int) (b:Int)=.ok (.int k ((a*b:Nat):Int)):=by
 show R.ok (Value.int k (eL k ((a:Int)*(b:Int))))=_;rw[show(a:Int)*(b:Int)=((a*b:Nat):Int) by simp,zg h]
def qci{a:Nat}(ha:a<18446744073709551616)(hb:b<18446744073709551616):a_ .or .u64 (a:Int) (b:Int)=.ok (uN (a|||b)):=by
 show(bif di .u64 (a:Int)&&di .u64 (b:Int)then R.ok (Value.int .u64 (a|||b:Nat))else .no 11)=_;rw[fM ha,fM hb];rfl
def qgz{d:Option TypeDesc}{a:Nat}(h:b<64)(h2:a<<<b<18446744073709551616):ij .shl d (.int .u64 a) (.int k' (b:Int))=.ok (uN (a<<<b)):=by
 have e:ij .shl d (.int .u64 a) (.int k' (b:Int))=(bif aO b 64 then R.ok (Value.int .u64 (eL .u64 ((a<<<b:Nat):Int)))else .ok (.int .u64 0)):=rfl;have hb:aO b 64=ae:=by rw[bZ];exact h
 rw[e,hb,aJ,zg (fM h2)]
def Qj{ts:List au}{a:Nat}:c_ tb .min ts [.int .u64 a,.int .u64 b]=.ok (.int .u64 (min a b:Nat)):=by
 have e:c_ tb .min ts [.int .u64 a,.int .u64 b]=.ok (.int .u64 (bif aO b a then(b:Int)else(a:Int))):=by
  cases ts<;>rfl
 rw[e];cases h:aO b a with
 |true=>
  have:b<a:=by simpa[bZ]using h
  rw[BI (by omega)];rfl
 |false=>
  have:¬b<a:=by intro hx;rw[<-bZ,h]at hx;cases hx
  rw[nf (by omega)];rfl
def La{d:Option TypeDesc}{a:Nat}(h:b<64):ij .shr d (.int .u64 a) (.int k' (b:Int))=.ok (uN (a>>>b)):=by
 have e:ij .shr d (.int .u64 a) (.int k' (b:Int))=.ok (.int .u64 (.ofNat (Nat.shiftRight a (bif aO b 64 then b else 64)))):=rfl;have hb:aO b 64=ae:=by rw[bZ];exact h
 rw[e,hb,aJ];rfl
def fS(n:Nat):Nat:=if n=0 then 0 else n.log2+1
def MN{a:Nat}(h:2^a<=n):fS n=a+fS (n>>>a):=by
 have hn:n≠0:=by have:=xY a;omega
 have hd:n/2^a≠0:=by
  have:=(Nat.le_div_iff_mul_le (xY a)).2 (show 1*2^a<=n by omega);omega
 unfold fS;rw[rp,ax hn,ax hd];have h1:n.log2=a+(n/2^a).log2:=by
  apply Nat.le_antisymm
  .have:n.log2<a+(n/2^a).log2+1:=by
    rw[BH hn,show a+(n/2^a).log2+1=((n/2^a).log2+1)+a by omega,BL];have:=(BH hd).1 (ua _);exact(Hq (xY a)).1 this
   omega
  .rw[Nat.le_log2 hn,xU,BL];exact(Nat.le_div_iff_mul_le (xY a)).1 ((Nat.le_log2 hd).1 (aI _))
 omega
def PA{l:List UInt8}(hl:(aL (Z l) 256&&(lM 256).all λ i=>aL (l.getD i 0).toNat (fS i))=ae)(h:n<256):uL aT 9 (ai l) (.int .u8 n)=.ok (bN (fS n)):=by
 rw[dW]at hl;have e1:=eW hl.1;rw[mO mh (by omega),eW (oT.1 hl.2 n (List.mem_range.2 h))]
def HX(h:n<256):fS n<256:=by
 unfold fS;split
 .omega
 .rename_i h0;have:=(BH h0 (k:=8)).2 h;omega
def half(n a b:Nat)(h:n<2^(a+b)):∃x s,fS n=s+fS x/\x<2^max a b/\s<=a/\((x=n>>>a/\s=a/\2^a<=n)\/(x=n/\s=0/\¬2^a<=n)):=by
 by_cases ha:2^a<=n
 .refine⟨n>>>a,a,MN ha,?_,aI _,.inl ⟨rfl,rfl,ha⟩⟩;rw[rp];refine c9 ((Hq (xY a)).2 (by rw[<-BL,xU b a];exact h)) (rn (by omega) (Nat.le_max_right a b))
 .exact⟨n,0,by omega,c9 (by omega) (rn (by omega) (Nat.le_max_left a b)),a8 _,.inr ⟨rfl,rfl,ha⟩⟩
variable {A:Mem}
def qeH(n:Nat)(hn:n<18446744073709551616):az aT 261 [.int .u64 n] A (iN (fS n)) A:=by
 obtain⟨x1,s1,e1,b1,m1,h1⟩:=half n 32 32 hn;obtain⟨x2,s2,e2,b2,m2,h2⟩:=half x1 16 16 b1;obtain⟨x3,s3,e3,b3,m3,h3⟩:=half x2 8 8 b2;have b3:x3<256:=b3;have e:fS n=s1+s2+s3+fS x3:=by omega
 have hb:=HX b3;have c1:=eX (tb:=aT) (s:=113) (d:=5) (k:=.u64) (n:=x3) (by rw[pG];rfl) kx (qc b3);have c2:=eX (tb:=aT) (s:=5) (d:=3) (k:=.u8) (n:=fS x3) (by rw[kx];rfl) u7 (ct (by omega));rw[e];clear e e1 e2 e3 b1 b2 hn m1 m2 m3;simp only[Nat.reducePow]at h1 h2 h3;rcases h1 with⟨rfl,rfl,h1⟩|⟨rfl,rfl,h1⟩<;>rcases h2 with⟨rfl,rfl,h2⟩|⟨rfl,rfl,h2⟩<;>rcases h3 with⟨rfl,rfl,h3⟩|⟨rfl,rfl,h3⟩
 all_goals
  refine cq 60 (cM Tryz.func261) (by kernel_rfl) λ M=>?_
  simp(disch:=first|decide+kernel|omega)only[Tryz.f261,Aq,aa,iZ,gA,h1,h2,h3,c1,c2,PA,La,ep,eo]<;>rfl
def cd(n:Nat):Nat:=(fS n+7)/8
def iY(n:Nat):Nat:=if n<248 then 1 else 1+cd n
def c6(l:List UInt8):List I:=l.map gx
def iS(l:List UInt8):(c6 l).length=Z l:=by simp[c6]
variable {c:Nat}
def H9(h:c<256):gx (.ofNat c)=.int .u8 c:=by
 show Value.int .u8 (cK (jY c).toNat)=_;rw[HJ h];rfl
def pz(n:Nat):Nat->List UInt8
 |0=>[]
 |i+1=>pz n i++[.ofNat (n>>>(8*i) % 256)]
def bL(n:Nat):List UInt8:=if n<248 then [.ofNat n]else .ofNat (247+cd n)::pz n (cd n)
theorem w4(n:Nat):∀i,(pz n i).length=i
 |0=>rfl
 |i+1=>by unfold pz;rw[aY,w4 n i];rfl
def MM(h:n<18446744073709551616):fS n<=64:=by
 unfold fS;split
 .omega
 .rename_i h0;have:=(BH h0 (k:=64)).2 h;omega
def Aw(h:n<18446744073709551616):cd n<=8:=by have:=MM h;unfold cd;omega
def Ug:aT.aB 313=U (.array 9 5):=by kernel_rfl
def xr:bk aT 5=.ok 1:=by kernel_rfl
def qgE:bk aT 3=.ok 1:=by kernel_rfl
def Th:bk aT 315=.ok 10:=by kernel_rfl
def UI:dj aT 315=.ok (.agg ⟨[.int .u8 0,.int .u8 0,.int .u8 0,.int .u8 0,.int .u8 0,.int .u8 0,.int .u8 0,.int .u8 0,.int .u8 0,.int .i64 0]⟩):=by kernel_rfl
def Jo:bK aT 315 (pw b 0) 0=.ok (pw b 0):=by kernel_rfl
def On:bK aT 315 (pw b 0) 1=.ok (pw b 9):=by kernel_rfl
variable {i:Nat}
def JR(h:i<9):eE aT 313 (pw b 0) (.int .i64 i)=.ok (pw b i):=by
 have:=JN (b:=b) (o:=0) (k:=.i64) Ug xr h;rwa[ep]at this
def BP(l:List I):Prop:=Z l=10/\∀v∈l,bS v=ae
variable {l:List I}{o:Nat}
def Dv{n:Int}(h:Z l=10)(ho:o<10):cm aT (A.alloc (af 315 l)) 5 (pw A.next o) (.int .u8 n)=.ok (A.alloc (af 315 (l.set o (.int .u8 n)))):=se xr rfl rfl (by omega)
def mc{n:Int}(h:Z l=10):cm aT (A.alloc (af 315 l)) 3 (pw A.next 9) (.int .i64 n)=.ok (A.alloc (af 315 (l.set 9 (.int .i64 n)))):=se qgE rfl rfl (by omega)
def FU(h:Z l=10):aj aT (A.alloc (af 315 l)).get 315 (pw A.next 0)=.ok (.agg ⟨l⟩):=P8 (by rw[Th,h]) (by kernel_rfl)
def Ts(h:BP l):cm aT (A.alloc (af 315 l)) 315 (pw A.next 0) (.agg ⟨l⟩)=.ok (A.alloc (af 315 l)):=fP (by rw[Th,h.1]) rfl rfl (by intro e;have:=h.1;rw[e]at this;cases this) h.2
def gQ(bs:List UInt8)(k:Nat)(n:Int):List I:=c6 bs++fQ k (.int .u8 0)++[.int .i64 n]
def jw(n:Nat):List I:=gQ (bL n) (9-iY n) (iY n:Nat)
variable {bs:List UInt8}{k:Nat}
def JY{w:Int}(hc:c<256):(gQ bs (k+1) w).set (Z bs) (.int .u8 c)=gQ (bs++[.ofNat c]) k w:=by
 unfold gQ c6;rw[gg,List.map_singleton,H9 hc,iC,Eb _ _ (by simp),bc,iQ,List.replicate_succ];simp
def PX{w v:Int}(h:Z bs+k=9):(gQ bs k w).set 9 (.int .i64 v)=gQ bs k v:=by
 unfold gQ;rw[Eb _ _ (by simp[iS];omega)];simp[iS,h]
def Au{w:Int}(h:Z bs+k=9):BP (gQ bs k w):=by
 refine⟨by simp[gQ,iS];omega,λ v hv=>?_⟩;simp only[gQ,c6,mw,eH,List.mem_replicate,dX]at hv;rcases hv with(⟨_,-,rfl⟩|⟨-,rfl⟩)|rfl<;>rfl
def lV:=cu qz
def IF:aH:=sub lV [1,1,1,1,0,1,0,0]
def IE:qz.body=U (.seq (sub lV [0]) (.seq (sub lV [1,0]) (.seq (sub lV [1,1,0]) (.seq (sub lV [1,1,1,0]) (.seq (.seq (sub lV [1,1,1,1,0,0]) (.block 0 (.loop IF))) (.seq (sub lV [1,1,1,1,1,0]) (.seq (sub lV [1,1,1,1,1,1,0]) (sub lV [1,1,1,1,1,1,1])))))))):=by kernel_rfl
def LV(tb:aN)(fn:Func)(Q:I->Mem->Prop)(e:Ex)(s:St):Prop:=(e=.nrm\/e=.ret)/\s.d=[]/\∃v,(eF tb s.t s.m.get fn.results.toList).bind (λ vs=>.ok (oneOf vs))=.ok v/\Q v s.m
variable {fn:Func}
def cZ{f:FuncId}{c:aH}{args:List I}{Q:I->Mem->Prop}(hf:tb.fn.get f=U fn)(hb:fn.body=U c)(ho:okF tb f fn args=ae)
 (h:W tb c ⟨T.bW .e 0 args,fn.ntmps,[],A,V⟩ (LV tb fn Q)):∃v A',az tb f args A v A'/\Q v A':=by
 obtain⟨-,hn,hnm,hk⟩:=Ko ho;refine pS hf hb hn hnm hk (h.mono λ e s hs=>?_);obtain⟨h1,h2,v,h3,h4⟩:=hs;rw[h2];cases hr:eF tb s.t s.m.get fn.results.toList with
 |no _=>rw[hr]at h3;cases h3
 |ok vs=>
  rw[hr]at h3;cases h3;exact⟨h1,s.m,vs,rfl,hr,h4⟩
def Sv(hn:n<18446744073709551616):∃v A',az aT 226 [.int .u64 n] A v A'/\v=.agg ⟨jw n⟩:=by
 refine cZ (cM Tryz.func226) IE (by kernel_rfl) ?_;have z10:BP (gQ [] 9 0):=Au rfl;apply W.q
 .intro M;simp(disch:=omega)only[lV,qz,Aq,aa,UI,a7];rfl
 rw[show af 315 [Value.int .u8 0,.int .u8 0,.int .u8 0,.int .u8 0,.int .u8 0,.int .u8 0,.int .u8 0,.int .u8 0,.int .u8 0,.int .i64 0]=af 315 (gQ [] 9 0)from rfl];have zl:=z10.1;apply W.seq;by_cases h:n<248
 .have c1:=eX (k:=.u64) (n:=n) (by rw[pG];rfl) kx (qc (by omega));have p1:(gQ [] 9 0).set 0 (.int .u8 n)=gQ [.ofNat n] 8 0:=JY (bs:=[]) (k:=8) (by omega);have p2:=PX (bs:=[.ofNat n]) (k:=8) (w:=0) (v:=((1:Nat):Int)) rfl;have t1:BP (gQ ([.ofNat n]) 8 0):=Au rfl;have t2:BP (gQ ([.ofNat n]) 8 ((1:Nat):Int)):=Au rfl;have e1:=t1.1;have e2:=t2.1;have e3:=Ts (A:=A) t2;have hL:gQ ([.ofNat n]) 8 ((1:Nat):Int)=jw n:=by unfold jw bL iY;rw[aA h,aA h]
  apply W.run 20
  .intro M;simp(disch:=first|decide+kernel|omega)only[lV,qz,Aq,aa,h,c1,Jo,On,JR,Dv,mc,zl,e1,e2,FU,e3,p1,p2];rfl
  exact⟨by simp,rfl,_,(by simp only[qz,Aq,aa,FU,e2]<;>rfl),by rw[hL]⟩
 .obtain⟨g,hg⟩:=qeH (A:=A.alloc (af 315 (gQ [] 9 0))) n hn;have hm:=Aw hn;have hb:=MM hn;have q1:fS n+8-1=fS n+7:=by omega
  have c1:=eX (tb:=aT) (s:=3) (d:=5) (k:=.i64) (n:=247+cd n) (by rw[u7];rfl) kx (qc (by omega));have a1:a_ .add .i64 ((247:Nat):Int) ((cd n:Nat):Int)=.ok (iN (247+cd n)):=e_ (ct (by omega));have p1:(gQ [] 9 0).set 0 (bN (247+cd n))=gQ [.ofNat (247+cd n)] 8 0:=JY (bs:=[]) (k:=8) (by omega);apply W.run 20
  .intro M;simp(disch:=first|decide+kernel|omega)only[lV,qz,Aq,aa,h];rfl
  apply W.qG (g)
  .intro M hM;simp(disch:=first|decide+kernel|omega)only[lV,qz,Aq,aa,hg,eQ,ct,q1];rfl
  rw[show(fS n+7)/8=cd n from rfl];apply W.q
  .intro M;simp(disch:=first|decide+kernel|omega)only[lV,qz,Aq,aa,a1,c1,Jo,JR,Dv,zl,p1];rfl
  apply W.seq;apply W.q
  .intro M;simp(disch:=first|decide+kernel|omega)only[lV,qz,Aq,aa];rfl
  apply W.block;have hbl:∀i,(jY (247+cd n)::pz n i).length=1+i:=λ i=>by rw[cD,w4];omega
  refine W.up (cd n) (λ i t D=>D=A.alloc (af 315 (gQ (.ofNat (247+cd n)::pz n i) (8-i) 0))/\Sl t [(0,.int .u64 n),(2,pw A.next 0),(3,iN (cd n)),(23,iN (cd n)),(24,.int .i64 i)]) ?_ (a8 _) ⟨rfl,?_⟩
  .rintro i t D hi ⟨rfl,g0,g2,g3,g23,g24,-⟩;have z2:=(Au (w:=0) (show(jY (247+cd n)::pz n i).length+(8-i)=9 by rw[hbl];omega)).1;by_cases hlt:i<cd n
   .have m1:a_ .mul .i64 ((8:Nat):Int) ((i:Nat):Int)=.ok (iN (8*i)):=AK (ct (by omega));have a2:a_ .add .i64 ((1:Nat):Int) ((i:Nat):Int)=.ok (iN (1+i)):=e_ (ct (by omega));have c2:=Yc (tb:=aT) (s:=113) (d:=5) (k:=.u64) (n:=n>>>(8*i)) (by rw[pG];rfl) kx;have p2:=JY (bs:=.ofNat (247+cd n)::pz n i) (k:=8-(i+1)) (c:=n>>>(8*i) % 256) (w:=0) (by omega);rw[hbl,show 8-(i+1)+1=8-i by omega]at p2;apply W.run 20
    .intro M;simp(disch:=first|decide+kernel|omega)only[IF,lV,qz,Aq,aa,g0,g2,g23,g24,hlt,m1,a2,c2,La,Jo,JR,Dv,z2,p2];rfl
    refine⟨hlt,_,_,rfl,rfl,?_⟩;simp only[Sq,aa,ak,g0,g2,g3,g23]
   .have hin:i=cd n:=by omega
    subst hin;have a2:a_ .add .i64 ((1:Nat):Int) ((cd n:Nat):Int)=.ok (iN (1+cd n)):=e_ (ct (by omega));have h9:(jY (247+cd n)::pz n (cd n)).length+(8-cd n)=9:=by rw[hbl];omega
    have p3:=PX (w:=0) (v:=((1+cd n:Nat):Int)) h9;have t3:=Au (w:=((1+cd n:Nat):Int)) h9;have e3:=Ts (A:=A) t3;have z3:=t3.1;have hL:gQ (.ofNat (247+cd n)::pz n (cd n)) (8-cd n) ((1+cd n:Nat):Int)=jw n:=by unfold jw bL iY;rw[ax h,ax h,show 9-(1+cd n)=8-cd n by omega]
    apply W.run 20
    .intro M;simp(disch:=first|decide+kernel|omega)only[IF,lV,qz,Aq,aa,g23,g24,hlt];rfl
    apply W.run 40
    .intro M;simp(disch:=first|decide+kernel|omega)only[lV,qz,Aq,aa,g2,g3,a2,On,mc,z2,p3,FU,z3,e3];rfl
    exact⟨by simp,rfl,_,(by simp only[qz,Aq,aa,g2,FU,z3]<;>rfl),by rw[hL]⟩
  .simp only[Sq,aa,ak]
def F5(n:Nat):(bL n).length=iY n:=by
 unfold bL iY;split
 .rfl
 .rw[cD,w4];omega
def P2(hn:n<18446744073709551616):iY n<=9:=by
 have:=Aw hn;unfold iY;split<;>omega
def PW(hn:n<18446744073709551616):(jw n)[9]?=U (iN (iY n)):=by
 have:=P2 hn;have e:9=(c6 (bL n)++fQ (9-iY n) (Value.int .u8 0)).length:=by simp[iS,F5];omega
 unfold jw gQ;rw[eV (by omega),<-e];rfl
def qfJ(hn:n<18446744073709551616):∃A',az aT 278 [.int .u64 n] A (iN (iY n)) A':=by
 obtain⟨v,A',⟨g,hg⟩,rfl⟩:=Sv (A:=A) hn;have h2:=PW hn;generalize jw n=l at h2 hg;have f1:Ag aT 315 (.agg ⟨l⟩) 1=.ok (iN (iY n)):=by
  have e:Ag aT 315 (.agg ⟨l⟩) 1=nZ aT 3 l 9:=by kernel_rfl
  rw[e];exact oO u7 rfl h2
 refine⟨A',?_⟩;refine bX (g) 60 (cM Tryz.func278) (by kernel_rfl) λ M hM=>?_
 simp(disch:=omega)only[Tryz.f278,Aq,aa,hg,f1]<;>rfl
def mN(s:List UInt8)(a:Nat):Nat->Nat
 |0=>0
 |i+1=>mN s a i|||((s.getD (a+1+i) 0).toNat<<<(8*i))
theorem JD(s:List UInt8)(a:Nat):∀i,mN s a i<2^(8*i)
 |0=>by simp[mN]
 |i+1=>by
  unfold mN;refine Nat.or_lt_two_pow (c9 (JD s a i) (rn (by omega) (by omega))) ?_;rw[Ht,show 8*(i+1)=8+8*i by omega,BL];exact Nat.mul_lt_mul_of_pos_right (s.getD (a+1+i) 0).toNat_lt (xY _)
def qa(s:List UInt8)(a:Nat):Nat×Nat×Nat:=
 if Z s<=a then(0,a,3)else if(s.getD a 0).toNat<248 then((s.getD a 0).toNat,a+1,0)
 else if Z s-a<=(s.getD a 0).toNat-247 then(0,a,3)
 else if iY (mN s a ((s.getD a 0).toNat-247))=1+((s.getD a 0).toNat-247)then(mN s a ((s.getD a 0).toNat-247),a+1+((s.getD a 0).toNat-247),0)else(0,a,5)
def uK(p:Nat×Nat×Nat):I:=.tuple ⟨[.int .u64 p.1,.int .i64 p.2.1,.int .i64 p.2.2]⟩
def ik:=cu jC
def Iu:aH:=sub ik [1,1,1,1,1,1,0,1,0,0]
def It:jC.body=U (.seq (sub ik [0]) (.seq (sub ik [1,0]) (.seq (sub ik [1,1,0]) (.seq (sub ik [1,1,1,0]) (.seq (sub ik [1,1,1,1,0]) (.seq (sub ik [1,1,1,1,1,0]) (.seq (.seq (sub ik [1,1,1,1,1,1,0,0]) (.block 0 (.loop Iu))) (.seq (sub ik [1,1,1,1,1,1,1,0]) (.seq (sub ik [1,1,1,1,1,1,1,1,0]) (sub ik [1,1,1,1,1,1,1,1,1])))))))))):=by kernel_rfl
def run_get{s:List UInt8}{a:Nat}(hs:Z s<1000000)(ha:a<=Z s):∃v A',az aT 239 [ai s,.int .i64 a] A v A'/\v=uK (qa s a):=by
 refine cZ (cM Tryz.func239) It (by kernel_rfl) ?_;have hl:=gB (l:=s) mh;apply W.q
 .intro M;simp(config:={maxSteps:=4000000})(disch:=first|decide+kernel|omega|simp only[Wq,aa])only[ik,jC,Aq,av,reduceIte,aa,ak];rfl
 apply W.seq;by_cases h1:Z s<=a
 .apply W.run 20
  .intro M;simp(config:={maxSteps:=4000000})(disch:=first|decide+kernel|omega|simp only[Wq,aa])only[ik,jC,Aq,av,reduceIte,aa,ak,hl,iZ,gA,h1];rfl
  exact⟨by simp,rfl,_,(by simp only[jC,Aq,av,reduceIte,aa,ak]<;>rfl),by unfold qa;rw[aA h1];rfl⟩
 have hix:=mO (t:=9) (kd:=.i64) mh (show a<Z s by omega);have hf:=(s.getD a 0).toNat_lt;generalize hfd:(s.getD a 0).toNat=f at hix hf;apply W.run 20
 .intro M;simp(config:={maxSteps:=4000000})(disch:=first|decide+kernel|omega|simp only[Wq,aa])only[ik,jC,Aq,av,reduceIte,aa,ak,hl,iZ,gA,h1];rfl
 apply W.q
 .intro M;simp(disch:=first|decide+kernel|omega)only[ik,jC,Aq,aa,hix];rfl
 apply W.seq;by_cases h2:f<248
 .have cv:=eX (tb:=aT) (s:=5) (d:=113) (k:=.u8) (n:=f) (by rw[kx];rfl) pG (fM (by omega));have a1:a_ .add .i64 ((a:Nat):Int) ((1:Nat):Int)=.ok (iN (a+1)):=e_ (ct (by omega));apply W.run 20
  .intro M;simp(disch:=first|decide+kernel|omega)only[ik,jC,Aq,aa,h2,cv,a1];rfl
  exact⟨by simp,rfl,_,(by simp only[jC,Aq,aa]<;>rfl),by unfold qa;rw[ax h1,hfd,aA h2];rfl⟩
 have cv:=eX (tb:=aT) (s:=5) (d:=3) (k:=.u8) (n:=f) (by rw[kx];rfl) u7 (ct (by omega));have s1:a_ .sub .i64 ((f:Nat):Int) ((248:Nat):Int)=.ok (iN (f-248)):=eQ (by omega) (ct (by omega));have a1:a_ .add .i64 ((f-248:Nat):Int) ((1:Nat):Int)=.ok (iN (f-247)):=by rw[e_ (ct (by omega)),show f-248+1=f-247 by omega]
 have s2:a_ .sub .i64 ((Z s:Nat):Int) ((a:Nat):Int)=.ok (iN (Z s-a)):=eQ (by omega) (ct (by omega));apply W.run 20
 .intro M;simp(disch:=first|decide+kernel|omega)only[ik,jC,Aq,aa,h2];rfl
 apply W.q
 .intro M;simp(disch:=first|decide+kernel|omega)only[ik,jC,Aq,aa,cv,s1,a1];rfl
 generalize hm:f-247=m;have hm8:m<=8:=by omega
 apply W.seq;by_cases h3:Z s-a<=m
 .apply W.run 20
  .intro M;simp(disch:=first|decide+kernel|omega)only[ik,jC,Aq,aa,hl,s2,tM,gA,h3];rfl
  exact⟨by simp,rfl,_,(by simp only[jC,Aq,aa]<;>rfl),by unfold qa;rw[ax h1,hfd,ax h2,hm,aA h3];rfl⟩
 apply W.run 20
 .intro M;simp(disch:=first|decide+kernel|omega)only[ik,jC,Aq,aa,hl,s2,tM,gA,h3];rfl
 apply W.seq;apply W.q
 .intro M;simp(disch:=first|decide+kernel|omega)only[ik,jC,Aq,aa];rfl
 apply W.block;refine W.up m (λ i t D=>D=A/\Sl t [(0,ai s),(1,.int .i64 a),(4,uN (mN s a i)),(8,.int .i64 m),(39,.int .i64 m),(40,.int .i64 i)]) ?_ (a8 _) ⟨rfl,?_⟩
 .rintro i t D hi ⟨rfl,g0,g1,g4,g8,g39,g40,-⟩;have hlt2:=JD s a i;have hp:2^(8*i)<=2^64:=rn (by omega) (by omega);by_cases hlt:i<m
  .have hx:=mO (t:=9) (kd:=.i64) mh (show a+1+i<Z s by omega);have hc:=(s.getD (a+1+i) 0).toNat_lt;have hlt3:=JD s a (i+1);have hp3:2^(8*(i+1))<=2^64:=rn (by omega) (by omega);have e3:mN s a (i+1)=mN s a i|||((s.getD (a+1+i) 0).toNat<<<(8*i)):=rfl;have hsh:(s.getD (a+1+i) 0).toNat<<<(8*i)<18446744073709551616:=by
    refine c9 ?_ hp3;rw[Ht,show 8*(i+1)=8+8*i by omega,BL];exact Nat.mul_lt_mul_of_pos_right hc (xY _)
   generalize (s.getD (a+1+i) 0).toNat=c at hx hc hsh e3;have cv2:=eX (tb:=aT) (s:=5) (d:=113) (k:=.u8) (n:=c) (by rw[kx];rfl) pG (fM (by omega));have m1:a_ .mul .i64 ((8:Nat):Int) ((i:Nat):Int)=.ok (iN (8*i)):=AK (ct (by omega));have a2:a_ .add .i64 ((a:Nat):Int) ((1:Nat):Int)=.ok (iN (a+1)):=e_ (ct (by omega));have a3:a_ .add .i64 ((a+1:Nat):Int) ((i:Nat):Int)=.ok (iN (a+1+i)):=e_ (ct (by omega));have sh:=λ d k'=>qgz (d:=d) (k':=k') (a:=c) (b:=8*i) (by omega) hsh
   have o1:=qci (a:=mN s a i) (b:=c<<<(8*i)) (by omega) hsh;apply W.run 20
   .intro M;simp(disch:=first|decide+kernel|omega)only[Iu,ik,jC,Aq,aa,g0,g1,g4,g39,g40,hlt,hx,cv2,m1,a2,a3,sh,o1];rfl
   refine⟨hlt,_,_,rfl,rfl,?_⟩;simp only[Sq,aa,ak,g0,g1,g8,g39,e3]
  .have hin:i=m:=by omega
   subst hin;obtain⟨A',g,hg⟩:=qfJ (A:=D) (n:=mN s a i) (by omega);have a2:a_ .add .i64 ((1:Nat):Int) ((i:Nat):Int)=.ok (iN (1+i)):=e_ (ct (by omega));have a3:a_ .add .i64 ((a:Nat):Int) ((1:Nat):Int)=.ok (iN (a+1)):=e_ (ct (by omega));have a4:a_ .add .i64 ((a+1:Nat):Int) ((i:Nat):Int)=.ok (iN (a+1+i)):=e_ (ct (by omega));apply W.run 20
   .intro M;simp(disch:=first|decide+kernel|omega)only[Iu,ik,jC,Aq,aa,g39,g40,hlt];rfl
   apply W.seq;by_cases h4:iY (mN s a i)=1+i
   .apply W.cC (g) 20
    .intro M hM;simp(disch:=first|decide+kernel|omega)only[ik,jC,Aq,aa,g4,g8,hg,a2,h4];rfl
    apply W.run 20
    .intro M;simp(disch:=first|decide+kernel|omega)only[ik,jC,Aq,aa,g1,g4,g8,a3,a4];rfl
    exact⟨by simp,rfl,_,(by simp only[jC,Aq,aa]<;>rfl),by unfold qa;rw[ax h1,hfd,ax h2,hm,ax h3,aA h4];rfl⟩
   .apply W.cC (g) 20
    .intro M hM;simp(disch:=first|decide+kernel|omega)only[ik,jC,Aq,aa,g1,g4,g8,hg,a2,h4];rfl
    exact⟨by simp,rfl,_,(by simp only[jC,Aq,aa]<;>rfl),by unfold qa;rw[ax h1,hfd,ax h2,hm,ax h3,ax h4];rfl⟩
 .simp only[Sq,aa,ak,mN]
def zc:aT.aB 74=U (.slice 5):=by kernel_rfl
def G5:fu aT 5=.ok (1,[.int .u8 0]):=by kernel_rfl
def GJ:∃i,aT.ty.get 5=U i/\0<i.bytes/\i.bytes<=65536:=by
 have h:(aT.ty.get 5).map (λ i=>aO 0 i.bytes&&av i.bytes 65536)=U ae:=by kernel_rfl
 cases hq:aT.ty.get 5 with
 |none=>rw[hq]at h;cases h
 |some i=>
  rw[hq]at h;simp only[gX,fg,dW,bZ]at h;exact⟨i,rfl,h.1,gK h.2⟩
def Dt{l:List UInt8}{x:I}(h:eS A 5 b (c6 l) x):gO aT A.get 74 9 x=.ok (ai l):=by
 rcases h with⟨rfl,hl⟩|⟨k,c,rfl,h4,h5,h6⟩
 .have:l=[]:=by cases l with
   |nil=>rfl
   |cons _ _=>simp[c6]at hl
  subst this;unfold gO;simp only[zc,mh,kx];rfl
 .have hb:DQ A b 5 k l:=by
   obtain⟨cs,e1,e2⟩:=h5;exact⟨cs,e1,λ i hi=>e2 i (by rw[iS];exact hi)⟩
  rw[iS];exact TD zc mh kx hb
variable {dst:Option Tmp}
def Kl{ih:aH->St->R (Ex×St)}{ty:au}{pos:String}{after:Array Edge}{g:Option (Nat×Bool)}{s:St}{k:St->R (Ex×St)}(x:bM):bT aT ih {dst,op:=.convert 74 9 x,type:=ty,pos,after,guard:=g} s k=(ev s.t x).bind λ x=>(gO aT s.m.get 74 9 x).bind λ v=>b7 s dst v k:=by
 rw[uS (hc:=by kernel_rfl) (hi:=rfl)];simp only[eR,R.eI]
def H5{c:Int}:eO aT 74 1 [(0,.int .u8 c)]=.ok (af 5 [.int .u8 c],.dZ 1 2):=by kernel_rfl
def U7{D:Mem}{l:List UInt8}{x:I}(h:eS D 5 b (c6 l) x)(hb:l≠ []->b<D.next)(hl:Z l<16000000)(hc:c<256):
 ∃x' D',dJ aT (D.alloc (af 5 [.int .u8 c])) 74 74 x (.slice (U ⟨D.next,0,V⟩) 1 2)=.ok (x',D')/\eS D' 5 (D.next+1) (c6 (l++[.ofNat c])) x'/\D'.next=D.next+2/\∀y,y≠b->y<D.next->D'.get y=D.get y:=by
 obtain⟨i,h1,h2,h3⟩:=GJ;have hs:eS (D.alloc (af 5 [.int .u8 c])) 5 b (c6 l) x:=h.same (by rw[aG];omega) λ hh=>cY (by omega)
 obtain⟨x',D',e1,e2,e3,e4⟩:=hs.append (tb:=aT) (st:=74) (xt:=74) zc zc G5 h1 h2 h3 (by rw[iS];omega) (de D _) rfl;rw[aG]at e2 e3 e4;refine⟨x',D',e1,?_,by omega,λ y hy hyn=>by rw[e4 y hy (by omega),cY (by omega)]⟩;rw[show c6 (l++[jY c])=c6 l++[.int .u8 c] by unfold c6;rw[gg,List.map_singleton,H9 hc]];exact e2
def Le{D:Mem}(hc:c<256):eS (D.alloc (af 5 [.int .u8 c])) 5 D.next (c6 [.ofNat c]) (.slice (U ⟨D.next,0,V⟩) 1 2):=by
 have e:c6 [jY c]=[.int .u8 c]:=by unfold c6;rw[List.map_singleton,H9 hc]
 rw[e];exact .inr ⟨.var 1,2,rfl,by rw[aG];omega,xF D 5 [.int .u8 c],.inl rfl⟩
def qa6(h:n<256)(h0:n≠0):cd n=1:=by
 have h1:=HX h;unfold cd fS;rw[ax h0];have:=(BH h0 (k:=8)).2 h;omega
def qa7(h:256<=n):cd n=1+cd (n/256):=by
 unfold cd;rw[MN (n:=n) (a:=8) h,rp,show 2^8=256 from rfl];omega
def uy:=cu zK
def Is:aH:=sub uy [1,1,0,0,0]
def WY:zK.body=U (.seq (sub uy [0]) (.seq (sub uy [1,0]) (.seq (.block 0 (.loop Is)) (.seq (sub uy [1,1,1,0]) (sub uy [1,1,1,1]))))):=by kernel_rfl
def Gb{a:Nat}(h:a<18446744073709551616)(hb:0<b):a_ .quo .u64 (a:Int) (b:Int)=.ok (uN (a/b)):=by
 obtain⟨c,rfl⟩:∃c,b=c+1:=⟨b-1,by omega⟩;show R.ok (Value.int .u64 (eL .u64 ((a/(c+1):Nat):Int)))=_;rw[zg (fM (mz (Hp _ _) h))]
def qdS(hn:n<18446744073709551616)(h0:n≠0):az aT 248 [.int .u64 n] A (iN (cd n)) A:=by
 refine wg (cM Tryz.func248) WY (by kernel_rfl) ?_;have hle:=Aw hn;apply W.q2
 .intro M _;simp(disch:=first|decide+kernel|omega)only[uy,zK,Aq,aa];rfl
 apply W.seq;apply W.block;refine W.up 7 (λ i t D=>D=A/\∃x,x≠0/\x<18446744073709551616/\i+cd x=cd n/\Sl t [(0,.int .u64 x),(3,iN (i+1))]) ?_ (a8 _) ⟨rfl,n,h0,hn,by omega,?_⟩
 .rintro i t D hi ⟨rfl,x,hx0,hx,hi2,g0,g3,-⟩;by_cases hlt:256<=x
  .have hst:=qa7 hlt;have h1:cd (x/256)≠0:=by
    intro h;have h2:x/256=0:=by
     unfold cd fS at h;split at h
     .assumption
     .omega
    omega
   have q:=Gb (b:=256) hx (by omega);have a1:a_ .add .i64 ((i+1:Nat):Int) ((1:Nat):Int)=.ok (iN (i+1+1)):=e_ (ct (by omega));apply W.run 20
   .intro M;simp(disch:=first|decide+kernel|omega)only[Is,uy,zK,Aq,aa,g0,g3,iZ,gA,hlt,q,a1];rfl
   refine⟨by omega,_,_,rfl,rfl,x/256,by omega,by omega,by omega,?_⟩;simp only[Sq,aa,ak]
  .have h1:=qa6 (by omega) hx0;have e:i+1=cd n:=by omega
   rw[e]at g3;apply W.run 20
   .intro M;simp(disch:=first|decide+kernel|omega)only[Is,uy,zK,Aq,aa,g0,iZ,gA,hlt];rfl
   apply W.run 40
   .intro M;simp(disch:=first|decide+kernel|omega)only[uy,zK,Aq,aa,g3];rfl
   exact⟨by simp,rfl,rfl,by simp only[zK,Aq,aa]<;>rfl⟩
 .simp only[Sq,aa,ak]
def ny:=cu rB
def Ii:aH:=sub ny [1,1,1,1,0,1,0,0]
def Ih:rB.body=U (.seq (sub ny [0]) (.seq (sub ny [1,0]) (.seq (sub ny [1,1,0]) (.seq (sub ny [1,1,1,0]) (.seq (.seq (sub ny [1,1,1,1,0,0]) (.block 0 (.loop Ii))) (.seq (sub ny [1,1,1,1,1,0]) (sub ny [1,1,1,1,1,1]))))))):=by kernel_rfl
def qe9(hn:n<18446744073709551616):∃v A',az aT 209 [.int .u64 n] A v A'/\v=ai (bL n):=by
 refine cZ (cM Tryz.func209) Ih (by kernel_rfl) ?_;have hle:=Aw hn;apply W.q
 .intro M;simp(disch:=first|decide+kernel|omega)only[ny,rB,Aq,aa];rfl
 apply W.seq;by_cases h:n<248
 .have c1:=eX (tb:=aT) (s:=113) (d:=5) (k:=.u64) (n:=n) (by rw[pG];rfl) kx (qc (by omega));have c2:=Dt (Le (D:=A) (show n<256 by omega));apply W.run 20
  .intro M;simp(disch:=first|decide+kernel|omega)only[ny,rB,Aq,aa,h,c1,H5,c2,Kl];rfl
  exact⟨by simp,rfl,_,(by simp only[rB,Aq,aa]<;>rfl),by unfold bL;rw[aA h]⟩
 obtain⟨g,hg⟩:=qdS (A:=A) hn (by omega);have c1:=eX (tb:=aT) (s:=3) (d:=5) (k:=.i64) (n:=247+cd n) (by rw[u7];rfl) kx (qc (by omega));have a1:a_ .add .i64 ((247:Nat):Int) ((cd n:Nat):Int)=.ok (iN (247+cd n)):=e_ (ct (by omega));apply W.run 20
 .intro M;simp(disch:=first|decide+kernel|omega)only[ny,rB,Aq,aa,h];rfl
 apply W.ic (g)
 .intro M hM _;simp(disch:=first|decide+kernel|omega)only[ny,rB,Aq,aa,hg,a1,c1,H5];rfl
 have s1:=Le (D:=A) (show 247+cd n<256 by omega);apply W.seq;apply W.q
 .intro M;simp(disch:=first|decide+kernel|omega)only[ny,rB,Aq,aa];rfl
 apply W.block;refine W.up (cd n) (λ i t D=>∃b x,eS D 5 b (c6 (.ofNat (247+cd n)::pz n i)) x/\b<D.next/\Sl t [(0,uN (n>>>(8*i))),(3,iN (cd n)),(4,x),(5,.int .i64 i)]) ?_ (a8 _) ⟨_,_,s1,by rw[aG];omega,?_⟩
 .rintro i t D hi ⟨b,x,hs,hb,g0,g3,g4,g5,-⟩;by_cases hlt:i<cd n
  .have hsh:n>>>(8*i)<18446744073709551616:=mz (Nat.shiftRight_le _ _) hn;have c2:=eX (tb:=aT) (s:=113) (d:=5) (k:=.u64) (n:=n>>>(8*i) % 256) (by rw[pG];rfl) kx (qc (by omega));have q:=Gb (b:=256) hsh (by omega);have e2:n>>>(8*i)/256=n>>>(8*(i+1)):=by rw[show 8*(i+1)=8*i+8 by omega,Nat.shiftRight_add];exact(rp _ 8).symm
   obtain⟨x',D',ha,hs',hn',-⟩:=U7 hs (λ _=>hb) (by rw[cD,w4];omega) (show n>>>(8*i) % 256<256 by omega);apply W.run 20
   .intro M;simp(disch:=first|decide+kernel|omega)only[Ii,ny,rB,Aq,aa,g0,g3,g4,g5,hlt,c2,H5,ha,q,e2];rfl
   refine⟨hlt,_,_,rfl,_,x',hs',by omega,?_⟩;simp only[Sq,aa,ak,g3]
  .have e:i=cd n:=by omega
   subst e;have c2:=Dt hs;apply W.run 20
   .intro M;simp(disch:=first|decide+kernel|omega)only[Ii,ny,rB,Aq,aa,g3,g5,hlt];rfl
   apply W.run 40
   .intro M;simp(disch:=first|decide+kernel|omega)only[ny,rB,Aq,aa,g4,c2,Kl];rfl
   exact⟨by simp,rfl,_,(by simp only[rB,Aq,aa]<;>rfl),by unfold bL;rw[ax h]⟩
 .simp only[Sq,aa,ak];simp
end Go.Proofs.YtjoceidiioppiaaGreatDoor.sto
namespace Go.Am
theorem Cm:∀x,b6 x x=ag
 | []=>rfl
 |a::x=>by
  have:aO a.toNat a.toNat=ag:=by
   cases h:aO a.toNat a.toNat with
   |false=>rfl
   |true=>rw[bZ]at h;omega
  simp[b6,this,Cm x]
theorem H_:∀x y z,b6 x y=ae->b6 y z=ae->b6 x z=ae
 |_,[],_,h,_=>by simp[b6]at h
 |_,_::_,[],_,h=>by simp[b6]at h
 | [],b::y,c::z,_,_=>rfl
 |a::x,b::y,c::z,h1,h2=>by
  simp only[b6,DP,dW,bZ,qp]at h1 h2⊢;rcases h1 with h1|⟨h1,h1'⟩
  .rcases h2 with h2|⟨h2,_⟩
   .left;omega
   .left;omega
  .rcases h2 with h2|⟨h2,h2'⟩
   .left;omega
   .exact .inr ⟨by omega,H_ x y z h1' h2'⟩
theorem H':∀x y,b6 x y=ag->b6 y x=ag->x=y
 | [],[],_,_=>rfl
 | [],_::_,h,_=>by simp[b6]at h
 |_::_,[],_,h=>by simp[b6]at h
 |a::x,b::y,h1,h2=>by
  simp only[b6,Bp,Bool.and_eq_false_iff]at h1 h2;have e:a.toNat=b.toNat:=by
   rcases zC a.toNat b.toNat with h|h|h
   .have:=h1.1;rw[show aO a.toNat b.toNat=ae by rw[bZ];exact h]at this;cases this
   .exact h
   .have:=h2.1;rw[show aO b.toNat a.toNat=ae by rw[bZ];exact h]at this;cases this
  have e1:b6 x y=ag:=by
   rcases h1.2 with h|h
   .rw[e]at h;simp at h
   .exact h
  have e2:b6 y x=ag:=by
   rcases h2.2 with h|h
   .rw[e]at h;simp at h
   .exact h
  rw[H' x y e1 e2,td.1 e]
end Go.Am
namespace Go.Mdl
open Go.Am
structure aK where
 word:List UInt8
 weight:Nat
 gone:Bool
deriving DecidableEq
abbrev lt (a b:List UInt8):Prop:=b6 a b=ae
def FX(a:List UInt8):¬lt a a:=by unfold lt;rw[Cm];simp
def tJ{a b c:List UInt8}(h:lt a b)(k:lt b c):lt a c:=H_ _ _ _ h k
def Ax{a b:List UInt8}(h:¬lt a b)(k:¬lt b a):a=b:=H' _ _ (by simpa[lt]using h) (by simpa[lt]using k)
def dk:List aK->Prop
 | []=>True
 |x::l=>(∀y∈l,lt x.word y.word)/\dk l
def kZ(e:aK):List aK->List aK
 | []=>[e]
 |x::l=>if lt x.word e.word then x::kZ e l else if x.word=e.word then e::l else e::x::l
variable {e:aK}
theorem Kq:∀{l:List aK} {y:aK},y∈kZ e l->y=e\/y∈l
 | [],y,h=>by simp[kZ]at h;exact .inl h
 |x::l,y,h=>by
  unfold kZ at h;split at h
  .rcases cG.1 h with rfl|h
   .exact .inr cJ
   .rcases Kq h with h|h
    .exact .inl h
    .exact .inr (cV _ h)
  .split at h
   .rcases cG.1 h with h|h
    .exact .inl h
    .exact .inr (cV _ h)
   .rcases cG.1 h with h|h
    .exact .inl h
    .exact .inr h
theorem QM:∀{l:List aK},dk l->dk (kZ e l)
 | [],_=>⟨λ y hy=>(by cases hy),trivial⟩
 |x::l,h=>by
  unfold kZ;split
  .rename_i hx;refine⟨λ y hy=>?_,QM h.2⟩;rcases Kq hy with rfl|hy
   .exact hx
   .exact h.1 y hy
  .split
   .rename_i hx he;exact⟨λ y hy=>by rw[<-he];exact h.1 y hy,h.2⟩
   .rename_i hx he;have hex:lt e.word x.word:=xL λ hn=>he (Ax hx hn)
    refine⟨λ y hy=>?_,h⟩;rcases cG.1 hy with rfl|hy
    .exact hex
    .exact tJ hex (h.1 y hy)
def live(l:List aK):List aK:=l.filter λ e=>!e.gone
def find(w:List UInt8)(l:List aK):Option aK:=l.find? λ e=>decide (e.word=w)
end Go.Mdl
end
