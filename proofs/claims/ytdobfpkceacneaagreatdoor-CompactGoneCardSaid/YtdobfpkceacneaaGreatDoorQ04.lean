/- The abstract machine, the walk of the law and its plain laws, made small by a program; part 4: no conditions but those in each theorem. -/
import Derived.Test.YtdobfpkceacneaaGreatDoorQ03
import Derived.Test.YtdobfpkceacneaaGreatDoorChecked
import Derived.KernelRfl
import Derived.Shelf.SlIter.Nil
import Derived.Shelf.SlIter.Sorted
import Derived.Shelf.SortM.Plain
import Derived.Shelf.SortM.SortNone
set_option maxHeartbeats 16000000
set_option maxRecDepth 100000
set_option linter.unusedSimpArgs false
set_option linter.unusedVariables false
set_option linter.defProp false
noncomputable section
open Array renaming getElem?_eq_some_iff→fU,getElem?_toList→fW,length_toList→xO
open Array.mk renaming injEq→G6
open Bool renaming and_eq_true→dz,and_true→sY,false_eq_true→ed,not_false→xQ,not_true→sZ,false→af,true→aa
open Classical renaming byCases→vW
open Go renaming Code→aH,IntKind→cY,Operand→bA,Program→cI,TypeId→aj,Value→O,World→aG
open Int.ofNat renaming inj→zK
open Int renaming toNat_natCast→D9
open List renaming all_cons→Eb,all_eq_true→ov,append_assoc→jD,append_nil→kR,cons_append→ij,drop_drop→He,drop_eq_getElem_cons→nb,drop_eq_nil_iff→Hf,drop_eq_nil_of_le→Hg,drop_length→xZ,drop_zero→vZ,flatMap_append→zL,flatMap_cons→j',foldl_append→zM,foldl_cons→mG,getD_eq_getElem?_getD→ow,getElem?_append_left→eG,getElem?_append_right→ez,getElem?_cons_succ→dU,getElem?_cons_zero→dX,getElem?_drop→rz,getElem?_eq_getElem→aV,getElem?_eq_some_iff→bg,getElem?_map→da,getElem?_range→zN,getElem?_take→oz,getElem_mem→ik,getElem_of_mem→rA,length→Z,length_append→aU,length_cons→cd,length_drop→qx,length_eq_zero_iff→eQ,length_map→aR,length_nil→dL,length_pos_iff→iG,length_set→dI,length_take→db,map→ya,map_append→fY,map_cons→eU,map_eq_nil_iff→mH,map_map→zO,map_nil→rB,mem_append→mI,mem_cons→cC,mem_cons_of_mem→cU,mem_cons_self→cM,mem_map→dA,mem_of_getElem?→fh,mem_or_eq_of_mem_set→zP,mem_singleton→ee,nil_append→lX,nodup_nil→qz,not_mem_nil→en,pairwise_cons→wg,range→jE,range'→uf,replicate→fq,sum_cons→BD,take_length→dY,take_succ_cons→Ee,take_succ_eq_append_getElem→eH
open List.cons renaming injEq→ff
open Nat renaming add_assoc→rG,add_comm→ye,add_zero→dN,beq→aL,beq_eq→pS,beq_refl→uj,ble→au,ble_eq→pT,ble_eq_true_of_le→mJ,blt→aM,blt_eq→bT,eq_of_beq_eq_true→dZ,le_of_ble_eq_true→fQ,le_refl→aJ,le_trans→dp,log2_lt→Eg,lt_irrefl→gY,lt_of_lt_of_le→dc,lt_or_ge→d_,lt_succ_self→yg,lt_trichotomy→zX,min_eq_left→oA,mod_eq_of_lt→rH,mod_lt→iU,mod_two_eq_zero_or_one→Ei,mul_one→nf,not_lt_zero→BK,pow_add→BL,pow_le_pow_right→rI,pow_succ→zZ,reduceAdd→ak,reduceEqDiff→V,shiftLeft_eq→Hw,shiftRight_eq_div_pow→uk,sub_add_cancel→wh,sub_self→gZ,sub_zero→iV,two_pow_pos→yj,xor_assoc→wi,xor_lt_two_pow→Em,xor_zero→En,zero_add→dO,zero_le→a6
open Option renaming getD_some→td,map_some→fZ,none→Y,some→U
open Option.some renaming injEq→eM
open Go.Proofs.Tryz renaming checked→uq,f113→qI,f157→o_,f170→BR,f206→pY,f220→yB,f226→rL,f245→qL,f249→BU,f262→wm,f96→rP,prog→dq,underlying4→HH,underlying5→HI,underlying9→Es,zeroValue9→HJ
open UInt8 renaming lt_iff_toNat_lt→BY,ofNat→lZ,toNat_ofNat_of_lt'→HL
namespace Go.Proofs.YtdobfpkceacneaaGreatDoor.sto
open Go.Am Go.Mdl Go.Sto
abbrev IZ:List UInt8:=[48,49,50,51,52,53,54,55,56,57,97,98,99,100,101,102,103,104,105,106,107,108,109,110,111,112,113,114,115,116,117,118,119,120,121,122]
def oJ(d:Nat):UInt8:=IZ.getD d 0
def mj:Nat->Nat->List UInt8
 |0,_=>[]
 |k+1,n=>if n<36 then [oJ n]else mj k (n/36)++[oJ (n % 36)]
def nQ(n:Nat):List UInt8:=mj 13 n
theorem IX:∀k n,(mj k n).length<=k
 |0,_=>aJ _
 |k+1,n=>by
  unfold mj;split
  .simp
  .rw[aU];have:=IX k (n/36);simp;omega
def GS(c:UInt8):Nat:=if c<58 then c.toNat-48 else c.toNat-87
def GU:∀d,d<36->GS (oJ d)=d/\48<=(oJ d).toNat:=by decide
theorem IY:∀k n,n<36^k->(mj k n).foldl (λ a c=>36*a+GS c) 0=n
 |0,n,h=>by simp at h;subst h;rfl
 |k+1,n,h=>by
  unfold mj;split
  .rename_i h1;show 36*0+GS (oJ n)=n;rw[(GU n h1).1];omega
  .rw[zM,IY k (n/36) (by rw[zZ]at h;omega)];show 36*(n/36)+GS (oJ (n % 36))=n;rw[(GU _ (iU _ (by omega))).1];omega
theorem E7:∀k n,∀c∈mj k n,48<=c.toNat
 |0,_,c,h=>by cases h
 |k+1,n,c,h=>by
  unfold mj at h;split at h
  .rename_i h1;rw[ee.1 h];exact(GU n h1).2
  .rcases mI.1 h with h|h
   .exact E7 k _ c h
   .rw[ee.1 h];exact(GU _ (iU _ (by omega))).2
def qjq:cX bc 397=.ok (.agg ⟨fq 65 (.int .u8 0)⟩):=by kernel_rfl
def Uh:bc.aB 397=U (.array 65 5):=by kernel_rfl
variable {b i:Nat}
def Pu(h:i<65):dQ bc 397 (pw b 0) (.int .i64 i)=.ok (pw b i):=by
 have:=JH (b:=b) (o:=0) (k:=.i64) Uh xH h;rwa[dO]at this
variable {A:Mem}{o c:Nat}{l:List O}{w:List UInt8}
def qh6{k:Kd}{e:aj}(h:de A e b k l)(hw:l.drop o=dw w)(h0:w≠ []):gN bc A.get 123 9 (.slice (U ⟨b,o,Y⟩) (Z w) c)=.ok (ag w):=by
 obtain⟨cs,h1,h2⟩:=h;have hg:cs.iX (Z w) o=U (dw w):=oP cs (Z w) o (dw w) (jk w) (λ j hj=>by
  have e1:(dw w)[j]?=l[o+j]?:=by rw[<-hw,rz]
  rw[e1];refine h2 (o+j) ?_;have:=cV Z hw;rw[qx,jk]at this;omega)
 have hb:aL (Z w) 0=af:=by
  cases hq:aL (Z w) 0 with
  |false=>rfl
  |true=>
   have:=dZ hq;exact aZ (eQ.1 (by omega)) h0
 unfold gN;simp only[DP,oe,oc,zt,gO,hb,ba,h1,nf,hg,R.aT];rw[show bytesOf (dw w)=.ok w from Cs w];rfl
def qht(h:i<65):eD bc 397 (.pointer (U ⟨b,0,Y⟩)) (U (.int .i64 i)) Y Y=.ok (.slice (U ⟨b,i,Y⟩) (65-i) (2*(65-i))):=by
 have e1:bound (U (.int .i64 i)) 0 65=.ok i:=by
  show(bif au i 65 then R.ok i else _)=_;rw[show au i 65=aa by rw[pT];omega];rfl
 have e2:bound Y 65 65=.ok 65:=rfl;have e3:aL 65 i=af:=by
  cases hq:aL 65 i with
  |false=>rfl
  |true=>have:=dZ hq;omega
 unfold eD;simp only[Uh,e2,e1,R.aT,xH,e3,ba,fi,nf,dO]
variable {d:Nat}{kd:cY}
def Ni(h:d<36):uS bc 9 (ag IZ) (.int kd (d:Int))=.ok (bN ((oJ d).toNat)):=qX oe h
def NW(t:T O):ev t (.const (.string ⟨#[48,49,50,51,52,53,54,55,56,57,97,98,99,100,101,102,103,104,105,106,107,108,109,110,111,112,113,114,115,116,117,118,119,120,121,122]⟩))=.ok (ag IZ):=rfl
def gA:=cg qL
def Ir:aH:=sub gA [1,1,1,1,1,0,1,1,1,0,0,0]
def XC:qL.body=U (.seq (sub gA [0]) (.seq (sub gA [1,0]) (.seq (sub gA [1,1,0]) (.seq (sub gA [1,1,1,0]) (.seq (sub gA [1,1,1,1,0]) (.seq (.seq (sub gA [1,1,1,1,1,0,0]) (sub gA [1,1,1,1,1,0,1])) (.seq (sub gA [1,1,1,1,1,1,0]) (.seq (sub gA [1,1,1,1,1,1,1,0]) (.seq (sub gA [1,1,1,1,1,1,1,1,0]) (sub gA [1,1,1,1,1,1,1,1,1])))))))))):=by kernel_rfl
def XB:sub gA [1,1,1,1,1,0,1]=.cond (.tmp 34) (sub gA [1,1,1,1,1,0,1,0]) (.seq (sub gA [1,1,1,1,1,0,1,1,0]) (.seq (.block 2 (.loop Ir)) (.seq (sub gA [1,1,1,1,1,0,1,1,1,1,0]) (sub gA [1,1,1,1,1,0,1,1,1,1,1])))):=by kernel_rfl
def qf0:az bc 276 [iN 36] A (.bool af) A:=by
 have e:bj .and .i64 ((36:Nat):Int) ((35:Nat):Int)=.ok (iN 32):=by kernel_rfl
 have e2:bj .sub .i64 ((36:Nat):Int) ((1:Nat):Int)=.ok (iN 35):=by kernel_rfl
 refine cG 60 (b_ Tryz.func276) (by kernel_rfl) λ M=>?_
 simp only[Tryz.f276,Aq,V,e,e2]<;>rfl
variable {n:Nat}
def qeI(hn:n<18446744073709551616):∃v A',az bc 245 [.slice Y 0 0,.int .u64 n,iN 36,.bool af,.bool af] A v A'/\v=.tuple ⟨[.slice Y 0 0,ag (nQ n)]⟩:=by
 refine c_ (b_ Tryz.func245) XC (by kernel_rfl) ?_;obtain⟨g,hg⟩:=qf0 (A:=A.alloc (ae 397 (fq 65 (.int .u8 0))));apply W.q2
 .intro M _;simp(disch:=first|decide+kernel|omega|simp only[Wq,V])only[gA,qL,Aq,V,au,reduceIte,ak,fm,fk,Nat.reduceLT];rfl
 apply W.q2
 .intro M _;simp(disch:=omega)only[gA,qL,Aq,V,qjq,aX];rfl
 apply W.q
 .intro M;simp(disch:=first|decide+kernel|omega)only[gA,qL,Aq,V];rfl
 apply W.seq;apply W.seq;apply W.ct (g) 20
 .intro M hM;simp(disch:=first|decide+kernel|omega)only[gA,qL,Aq,V,hg];rfl
 show W bc (sub gA [1,1,1,1,1,0,1]) _ _;rw[XB];refine W.cond (p:=af) (by simp only[T.cq,V,bR,bO,sA,sq]) (λ h=>by cases h) λ _=>?_
 have cv:=ia (tb:=bc) (s:=3) (d:=147) (k:=.i64) (n:=36) (by rw[zw];rfl) tY (iz (by omega));apply W.q
 .intro M;simp(disch:=first|decide+kernel|omega)only[gA,qL,Aq,V,cv];rfl
 apply W.seq;apply W.block;refine W.up 12 (λ j t D=>∃l u w,D=A.alloc (ae 397 l)/\Z l=65/\(∀v∈l,bI v=aa)/\nQ n=mj (13-j) u++w/\u<36^(13-j)/\u<18446744073709551616/\Z w=j/\l.drop (65-j)=dw w/\Sl t [(1,.int .u64 u),(3,.bool af),(4,.bool af),(10,.slice Y 0 0),(12,pw A.next 0),(13,iN (65-j)),(17,uN 36)]) ?_ (a6 _) ⟨_,n,[],rfl,by simp,by simp[bI],by rw[kR];rfl,by omega,hn,rfl,by rw[Hg (by simp)];rfl,?_⟩
 .rintro j t D hj ⟨l,u,w,rfl,hl,h1,hd,hu,hu2,hw,hdr,g1,g3,g4,g10,g12,g13,g17,-⟩;have s1:bj .sub .i64 ((65-j:Nat):Int) ((1:Nat):Int)=.ok (iN (65-(j+1))):=by rw[gS (by omega) (cS (by omega)),show 65-j-1=65-(j+1) by omega]
  have st:∀c:UInt8,bX bc (A.alloc (ae 397 l)) 5 (pw A.next (65-(j+1))) (bN c.toNat)=.ok (A.alloc (ae 397 (l.set (65-(j+1)) (bN c.toNat)))):=λ c=>sS xH rfl rfl (by omega)
  have hset:∀c:UInt8,(l.set (65-(j+1)) (bN c.toNat)).drop (65-(j+1))=dw (c::w):=λ c=>by
   rw[nb (by rw[dI];omega),List.getElem_set_self,show 65-(j+1)+1=65-j by omega,List.drop_set_of_lt (by omega),hdr];rfl
  obtain⟨k,hk⟩:∃k,13-j=k+1:=⟨12-j,by omega⟩;rw[hk]at hd hu;by_cases hge:36<=u
  .have q1:=Rb (b:=36) hu2 (by omega);have m1:bj .mul .u64 ((u/36:Nat):Int) ((36:Nat):Int)=.ok (uN (u/36*36)):=Di (iz (by omega));have s2:bj .sub .u64 ((u:Nat):Int) ((u/36*36:Nat):Int)=.ok (uN (u % 36)):=by rw[gS (by omega) (iz (by omega)),show u-u/36*36=u % 36 by omega]
   have ix:=Ni (d:=u % 36) (kd:=.u64) (iU _ (by omega));have st1:=st (oJ (u % 36));have hd2:mj (k+1) u=mj k (u/36)++[oJ (u % 36)]:=by rw[mj,aq (by omega)]
   apply W.run 20
   .intro M;simp(disch:=first|decide+kernel|omega)only[Ir,gA,qL,Aq,V,g1,g12,g13,g17,iZ,hZ,hge,s1,q1,m1,s2,NW,ix,Pu,st1];rfl
   have hj2:j<12:=by
    rcases d_ j 12 with h|h
    .exact h
    .have e:k=0:=by omega
     subst e;simp at hu;omega
   refine⟨hj2,_,_,rfl,_,u/36,oJ (u % 36)::w,rfl,by rw[dI];exact hl,λ v hv=>?_,?_,?_,by omega,by rw[cd,hw],hset _,?_⟩
   .rcases zP hv with hv|rfl
    .exact h1 v hv
    .rfl
   .rw[hd,hd2,show 13-(j+1)=k by omega,jD];rfl
   .rw[show 13-(j+1)=k by omega];rw[zZ]at hu;omega
   .simp only[Sq,V,ak,g3,g4,g10,g12,g17]
  .have ix:=Ni (d:=u) (kd:=.u64) (by omega);have st1:=st (oJ u);have hd2:mj (k+1) u=[oJ u]:=by rw[mj,aC (by omega)]
   rw[hd2]at hd;have sl:=qht (b:=A.next) (i:=65-(j+1)) (by omega);have hsv:gN bc (A.alloc (ae 397 (l.set (65-(j+1)) (bN ((oJ u).toNat))))).get 123 9 (.slice (U ⟨A.next,65-(j+1),Y⟩) (65-(65-(j+1))) (2*(65-(65-(j+1)))))=.ok (ag (nQ n)):=by
    have h:=qh6 (A:=A.alloc (ae 397 (l.set (65-(j+1)) (bN ((oJ u).toNat))))) (c:=2*(j+1)) (sV A 397 _) (hset (oJ u)) (by simp);rw[cd,hw]at h;rw[show 65-(65-(j+1))=j+1 by omega,hd];exact h
   apply W.run 20
   .intro M;simp(disch:=first|decide+kernel|omega)only[Ir,gA,qL,Aq,V,g1,g17,iZ,hZ,hge];rfl
   apply W.run 40
   .intro M;simp(disch:=first|decide+kernel|omega)only[gA,qL,Aq,V,g13,s1,g1,g12,NW,ix,Pu,st1];rfl
   apply W.q2
   .intro M _;simp(disch:=first|decide+kernel|omega)only[gA,qL,Aq,V,g3,g4];rfl
   apply W.run 40
   .intro M;simp(disch:=first|decide+kernel|omega)only[gA,qL,Aq,V,g12,sl,qcJ,hsv];rfl
   exact⟨by simp,rfl,_,(by simp only[qL,Aq,V,g10]<;>rfl),rfl⟩
 .simp only[Sq,V,ak]
def qfl(hn:n<18446744073709551616):∃A',az bc 248 [.int .u64 n,iN 36] A (ag (nQ n)) A':=by
 obtain⟨v,B,⟨g,hg⟩,rfl⟩:=qeI (A:=A) hn;have h237:az bc 278 [.int .u64 n,iN 36] A (ag (nQ n)) B:=by
  refine bQ (g) 60 (b_ Tryz.func278) (by kernel_rfl) λ M hM=>?_
  simp(disch:=first|decide+kernel|omega)only[Tryz.f278,Aq,V,hg,dX,dU]<;>rfl
 obtain⟨g2,hg2⟩:=h237;refine⟨B,?_⟩;refine bQ (g2) 60 (b_ Tryz.func248) (by kernel_rfl) λ M hM=>?_
 simp(disch:=omega)only[Tryz.f248,Aq,V,hg2]<;>rfl
end Go.Proofs.YtdobfpkceacneaaGreatDoor.sto
namespace Go.Proofs.YtdobfpkceacneaaGreatDoor.crc
open Go.Am
noncomputable def bc:aO:=Ll uq.prog .e
def rm:dP bc:=TY uq _ λ f k fn h=>by cases h
variable {k:Nat}{fn:Func}
def b_(h:dq.funcs[k]?=U fn):bc.fn.get k=U fn:=by
 show(T.ofList uq.prog.funcs.toList).get k=_;rw[T.Az,fW];exact h
def oe:bc.aB 9=U .string:=by kernel_rfl
def Ud:bc.aB 42=U (.int .u32):=by kernel_rfl
def oc:bc.aB 5=U (.int .u8):=by kernel_rfl
def Ck(n b:Nat):Nat:=if n % 2≠b then n/2^^^3988292384 else n/2
variable {n:Nat}
def Wg(b:Nat)(h:n<4294967296):Ck n b<4294967296:=by
 unfold Ck;split
 .exact Em (n:=32) (by omega) (by omega)
 .omega
def I:aO:=bc
def Lm:dP I:=rm
def KD(p:Nat×Nat):Nat×Nat:=(Ck p.1 (p.2 % 2),p.2/2)
def tT:Nat->Nat×Nat->Nat×Nat
 |0,p=>p
 |k+1,p=>KD (tT k p)
theorem RQ{p:Nat×Nat}(h1:p.1<4294967296)(h2:p.2<4294967296):∀k,(tT k p).1<4294967296/\(tT k p).2<4294967296
 |0=>⟨h1,h2⟩
 |k+1=>by
  obtain⟨a,b⟩:=RQ h1 h2 k;refine⟨Wg _ a,?_⟩;show(tT k p).2/2<_;omega
def H4(n c:Nat):Nat:=(tT 8 (n,c)).1
def Li(n:Nat)(l:List UInt8):Nat:=l.foldl (λ n c=>H4 n c.toNat) n
def Ky(l:List UInt8):Nat:=4294967295-Li 4294967295 l
def four(n:Nat):List UInt8:=[.ofNat (n % 256),.ofNat (n/256 % 256),.ofNat (n/65536 % 256),.ofNat (n/16777216)]
def Ui:I.aB 123=U (.slice 5):=by kernel_rfl
def A_:aO:=I
def T0:dP A_:=Lm
def Ay(n:Nat):(four n).length=4:=rfl
def ek(l:List UInt8):List UInt8:=l++four (Ky l)
def zp(i:Nat):Nat:=(tT 4 (i,0)).1
def vp:List O:=(jE 16).map λ i=>.int .u32 (zp i:Nat)
def rk:O:=.agg ⟨vp⟩
variable {i:Nat}
def T6(h:i<16):zp i<4294967296:=(RQ (p:=(i,0)) (by show i<_;omega) (by show 0<_;omega) 4).1
def qig(h:i<16):vp[i]?=U (.int .u32 (zp i:Nat)):=by
 unfold vp;rw[da,zN h];rfl
def KO:∃A,call A_ 30 261 [] iB=.ok (.val rk A):=by
 have h:(match call A_ 30 261 [] iB with|.ok (.val v _)=>cP 9 v rk|_=>af)=aa:=by decide+kernel
 revert h;cases call A_ 30 261 [] iB with
 |no _=>intro h;cases h
 |ok r=>
  cases r with
  |dR _ _=>intro h;cases h
  |val v A=>
   intro h;exact⟨A,by rw[zh _ _ _ h]⟩
def GA:List O->Option O
 | []=>U rk
 |_=>Y
def qak:fP A_.P 261 (dV GA):=by
 refine xi T0 (b_ Tryz.func261) (c:=(Tryz.f261.body).getD .skip) (by kernel_rfl) λ args v h=>?_
 unfold GA at h;split at h
 .cases h;obtain⟨A,hr⟩:=KO;exact⟨by simp,by decide+kernel,30,A,hr⟩
 .cases h
def fy:aO:=A_.sM 261 (dV GA)
def T1:dP fy:=jy T0 qak
variable {A:Mem}
def call20{ih:aH->St->R (Ex×St)}:cH fy ih (.fn 261 []) A=.ok (.val rk A):=
 qa (c:=(Tryz.f261.body).getD .skip) (b_ Tryz.func261) (by kernel_rfl) (by kernel_rfl) (h:=dV GA) (by kernel_rfl) rfl
def Un:fy.aB 9=U .string:=oe
def Uj:fy.aB 123=U (.slice 5):=Ui
def Ue:fy.aB 42=U (.int .u32):=Ud
def Ul:fy.aB 5=U (.int .u8):=oc
def qiW:fy.aB 382=U (.array 16 42):=by kernel_rfl
def qhg:aY fy 42=.ok 1:=by kernel_rfl
def xH:aY fy 5=.ok 1:=by kernel_rfl
def AA(n h:Nat):Nat:=n>>>4^^^zp (n % 256&&&15^^^h)
def Cd(n:Nat):n&&&15=n % 16:=Nat.and_two_pow_sub_one_eq_mod n 4
def Pd{h:Nat}(hh:h<16):(n % 256&&&15)^^^h<16:=Em (n:=4) (by rw[Cd];exact iU _ (by omega)) hh
def JD{h:Nat}(hn:n<4294967296)(hh:h<16):AA n h<4294967296:=
 Em (n:=32) (by rw[uk];omega) (T6 (Pd hh))
def jP:=cg wm
def EL:aH:=sub jP [1,0,1,0,0]
def It:wm.body=U (.seq (sub jP [0]) (.seq (.seq (sub jP [1,0,0]) (.block 0 (.loop EL))) (.seq (sub jP [1,1,0]) (sub jP [1,1,1])))):=by kernel_rfl
variable {b:Nat}{t:T O}
def O9{bt h0 h1:Nat}(hn:n<4294967296)(hh0:h0<16)(hh1:h1<16)(hi:i<2)(hb:A.get b=U (ae 5 [.int .u8 (h0:Nat),.int .u8 (h1:Nat)]))(hbt:A.get bt=U (ae 382 vp))
 (g9:t.get 9=U (.slice (U ⟨b,0,Y⟩) 2 4))(g10:t.get 10=U (.int .i64 (2:Nat)))(g11:t.get 11=U (.int .i64 (i:Nat)))(g1:t.get 1=U (.int .u32 (n:Nat)))(g3:t.get 3=U (pw bt 0))
 {K:Ex->St->Prop}(hk:∀t':T O,t'.get 9=U (.slice (U ⟨b,0,Y⟩) 2 4)->t'.get 10=U (.int .i64 (2:Nat))->t'.get 11=U (.int .i64 (i+1:Nat))->t'.get 1=U (.int .u32 (AA n (if i=0 then h0 else h1):Nat))->t'.get 3=U (pw bt 0)->K .nrm ⟨t',27,[],A,Y⟩):
 W fy EL ⟨t,27,[],A,Y⟩ K:=by
 have hh:(if i=0 then h0 else h1)<16:=by split<;>assumption
 have hx:=Pd (n:=n) hh;have hl:ax fy A.get 5 (pw b (0+i))=.ok (bN (if i=0 then h0 else h1)):=by
  refine PY Ul rfl hb ?_;rw[dO];rcases(show i=0\/i=1 by omega)with rfl|rfl<;>rfl
 have hl2:ax fy A.get 42 (pw bt (0+(n % 256&&&15^^^(if i=0 then h0 else h1))))=.ok (.int .u32 (zp (n % 256&&&15^^^(if i=0 then h0 else h1)):Nat)):=by
  refine PY Ue rfl hbt ?_;rw[dO];exact qig hx
 have ht:=T6 hx;have hand:n % 256&&&15<256:=by rw[Cd];omega
 have hsh:n>>>4<4294967296:=by rw[uk];omega
 revert hh hx hl hl2 ht hk;generalize (if i=0 then h0 else h1)=h;intro hk hh hx hl hl2 ht;apply W.run 20
 .intro m;simp(disch:=first|decide+kernel|omega)only[EL,jP,wm,Aq,V,g9,g10,g11,g1,g3,hi,JI Uj xH,JH qiW qhg,hl,hl2,pB,Ue,Ul];rfl
 .apply hk
  all_goals simp only[T.cq,V,bR,bO,g9,g10,g3]
  rfl
def Bc(n h0 h1:Nat):Nat:=AA (AA n h0) h1
def KI{h0 h1:Nat}(hn:n<4294967296)(hh0:h0<16)(hh1:h1<16)(hb:A.get b=U (ae 5 [.int .u8 (h0:Nat),.int .u8 (h1:Nat)]))(hlt:b≠A.next):
 ∃g,∀m,cH fy (exec fy (m+g)) (.fn 262 [rk,.int .u32 (n:Nat),.slice (U ⟨b,0,Y⟩) 2 4]) A=.ok (.val (.int .u32 (Bc n h0 h1:Nat)) (A.alloc (ae 382 vp))):=by
 have hb':(A.alloc (ae 382 vp)).get b=U (ae 5 [.int .u8 (h0:Nat),.int .u8 (h1:Nat)]):=by rw[c9 hlt];exact hb
 obtain⟨v,A',⟨g,h1⟩,h2,h3⟩:∃v A',(∃g,∀m,cH fy (exec fy (m+g)) (.fn 262 [rk,.int .u32 (n:Nat),.slice (U ⟨b,0,Y⟩) 2 4]) A=.ok (.val v A'))/\v=.int .u32 (Bc n h0 h1:Nat)/\A'=A.alloc (ae 382 vp):=by
  refine M9 (b_ Tryz.func262) It (by rw[Tryz.ntmps262];simp) (by kernel_rfl) (by kernel_rfl) ?_;apply W.seq;apply W.run 20
  .intro m;simp(disch:=omega)only[jP,wm,Aq,V];rfl
  apply W.seq;apply W.seq;apply W.run 20
  .intro m;simp(disch:=decide+kernel)only[jP,wm,Aq,V,jY Uj];rfl
  apply W.block;apply W.round;refine O9 (i:=0) hn hh0 hh1 (by omega) hb' (cR _ _) ?_ ?_ ?_ ?_ ?_ ?_
  .simp only[T.cq,T.iD,T.my,V,ak,bR,bO]
  .simp only[T.cq,T.iD,T.my,V,ak,bR,bO]
  .simp only[T.cq,T.iD,T.my,V,ak,bR,bO]
  .simp only[T.cq,T.iD,T.my,V,ak,bR,bO]
  .simp only[T.cq,T.iD,T.my,V,ak,bR,bO]
  intro t g9 g10 g11 g1 g3;apply W.round;refine O9 (JD hn hh0) hh0 hh1 (by omega) hb' (cR _ _) g9 g10 g11 g1 g3 ?_;intro t g9 g10 g11 g1 g3;apply W.round;apply W.run 20
  .intro m;simp(disch:=decide+kernel)only[EL,jP,wm,Aq,V,g9,g10,g11,g1,g3];rfl
  apply W.seq;apply W.run 20
  .intro m;simp(disch:=omega)only[jP,wm,Aq,V,g1];rfl
  apply W.run 20
  .intro m;simp only[jP,wm,Aq,V];rfl
  refine⟨.inr rfl,A.alloc (ae 382 vp),[.int .u32 (Bc n h0 h1:Nat)],rfl,?_,rfl,rfl⟩;simp only[wm,eC,sA,T.cq,V,bR,bO,sq,R.aT];rfl
 subst h2 h3;exact⟨g,h1⟩
def DE(n:Nat)(c:UInt8):Nat:=Bc n (c.toNat&&&15) (c.toNat>>>4)
def PU(c:UInt8):c.toNat&&&15<16:=by rw[Cd];exact iU _ (by omega)
def O_(c:UInt8):c.toNat>>>4<16:=by have:=c.toNat_lt;rw[uk];omega
def qhV(h:n<4294967296)(c:UInt8):DE n c<4294967296:=JD (JD h (PU c)) (O_ c)
def q_(n:Nat)(l:List UInt8):Nat:=l.foldl DE n
def Qe(h:n<4294967296)(l:List UInt8):q_ n l<4294967296:=by
 unfold q_
 induction l generalizing n with
 |nil=>exact h
 |cons c l ih=>exact ih (qhV h c)
def qcf(n:Nat)(l:List UInt8)(k:Nat)(h:k<Z l):q_ n (l.take (k+1))=DE (q_ n (l.take k)) (l.getD k 0):=by
 unfold q_;rw[eH h,zM];simp[List.getD,aV h]
def gL:=cg rL
def wP:aH:=sub gL [1,1,1,0,1,0,0]
def EI:rL.body=U (.seq (sub gL [0]) (.seq (sub gL [1,0]) (.seq (sub gL [1,1,0]) (.seq (.seq (sub gL [1,1,1,0,0]) (.block 0 (.loop wP))) (.seq (sub gL [1,1,1,1,0]) (sub gL [1,1,1,1,1])))))):=by kernel_rfl
def tC(a b:Int):eo fy 123 2 [(0,.int .u8 a),(1,.int .u8 b)]=.ok (ae 5 [.int .u8 a,.int .u8 b],.dy 2 4):=by kernel_rfl
def qjM:cX fy 382=.ok (.agg ⟨fq 16 (.int .u32 0)⟩):=by kernel_rfl
def AM:Mem:=
 match bX fy (iB.alloc (ae 382 (fq 16 (.int .u32 0)))) 382 (.pointer (U ⟨iB.next,0,Y⟩)) rk with
 |.ok A=>A
 |_=>iB
def qb3:bX fy (iB.alloc (ae 382 (fq 16 (.int .u32 0)))) 382 (pw iB.next 0) rk=.ok AM:=by kernel_rfl
def qb4:ax fy AM.get 382 (.pointer (U ⟨0,0,Y⟩))=.ok rk:=by
 have h:(match ax fy AM.get 382 (.pointer (U ⟨0,0,Y⟩))with|.ok v=>cP 9 v rk|_=>af)=aa:=by decide+kernel
 revert h;cases ax fy AM.get 382 (.pointer (U ⟨0,0,Y⟩))with
 |no _=>intro h;cases h
 |ok v=>intro h;rw[zh _ _ _ h]
def qb5:AM.next=1:=by kernel_rfl
def L4(l:List UInt8)(n0 k:Nat)(s:St):Prop:=
 s.n=31/\s.d=[]/\s.ro=Y/\1<=s.m.next/\s.m.get 0=AM.get 0/\s.t.get 1=U (ag l)/\s.t.get 5=U (pw 0 0)/\s.t.get 12=U (.int .i64 (Z l:Nat))/\
 s.t.get 13=U (.int .i64 (k:Nat))/\s.t.get 6=U (.int .u32 (q_ n0 (l.take k):Nat))
def qc9{l:List UInt8}{n0:Nat}(hn:n0<4294967296)(hl:Z l<9223372036854775807){s:St}{K:Ex->St->Prop}(h:L4 l n0 0 s)
 (hk:∀(t:T O) (A:Mem),t.get 6=U (.int .u32 (q_ n0 l:Nat))->K (.exit 0) ⟨t,31,[],A,Y⟩):W fy (.loop wP) s K:=by
 refine W.loop (λ s=>∃k,k<=Z l/\L4 l n0 k s) (λ s=>Z l-(match s.t.get 13 with|some (.int _ i)=>i.toNat|_=>0)) ?_ ⟨0,by omega,h⟩;rintro⟨t,n,d,A,ro⟩ ⟨k,hk1,h01,h02,h03,hA,hA0,g1,g5,g12,g13,g6⟩;simp only at h01 h02 h03 hA hA0 g1 g5 g12 g13 g6;subst h01 h02 h03;have b3:=Qe hn (l.take k);have b5:=MP (l.getD k 0);by_cases hlt:k<Z l
 .have hl1:=PU (l.getD k 0);have hl2:=O_ (l.getD k 0);have hne:A.next≠(A.alloc (ae 5 [.int .u8 ((l.getD k 0).toNat&&&15:Nat),.int .u8 ((l.getD k 0).toNat>>>4:Nat)])).next:=by rw[aA];omega
  obtain⟨g,hby⟩:=KI b3 hl1 hl2 (cR _ _) hne;have hld:ax fy A.get 382 (pw 0 0)=.ok rk:=by rw[qbH hA0];exact qb4
  apply W.run (g+20)
  .intro m;have hby':∀j,cH fy (exec fy ((m+g)+j)) (.fn 262 [rk,.int .u32 (q_ n0 (l.take k):Nat),.slice (U ⟨A.next,0,Y⟩) 2 4]) (A.alloc (ae 5 [.int .u8 ((l.getD k 0).toNat&&&15:Nat),.int .u8 ((l.getD k 0).toNat>>>4:Nat)]))=.ok (.val (.int .u32 (Bc (q_ n0 (l.take k)) ((l.getD k 0).toNat&&&15) ((l.getD k 0).toNat>>>4):Nat)) ((A.alloc (ae 5 [.int .u8 ((l.getD k 0).toNat&&&15:Nat),.int .u8 ((l.getD k 0).toNat>>>4:Nat)])).alloc (ae 382 vp))):=
    λ j=>by rw[show m+g+j=(m+j)+g by omega];exact hby (m+j)
   rw[<-rG];revert hby';generalize m+g=M;intro hby';simp(disch:=first|decide+kernel|omega)only[wP,gL,rL,Aq,V,g1,g5,g6,g12,g13,hlt,qX Un,tC,hld,hby'];rfl
  .refine⟨⟨k+1,by omega,rfl,rfl,rfl,?_,?_,?_,?_,?_,?_,?_⟩,?_⟩
   .simp only[aA];omega
   .rw[c9 (by rw[aA];omega),c9 (by omega)];exact hA0
   .simp only[T.cq,V,bR,bO,g1]
   .simp only[T.cq,V,bR,bO,g5]
   .simp only[T.cq,V,bR,bO,g12]
   .simp only[T.cq,V,bR,bO]
   .simp only[T.cq,V,bR,bO,qcf _ _ _ hlt];rfl
   .simp only[T.cq,V,bR,bO,g13,D9];exact Nat.sub_lt_sub_left (by omega) (yg _)
 .have hkl:k=Z l:=by omega
  subst hkl;rw[dY]at g6;apply W.run 20
  .intro m;simp(disch:=decide+kernel)only[wP,gL,rL,Aq,V,g12,g13];rfl
  refine hk _ _ ?_;simp only[T.cq,V,bR,bO,g6]
def uW(n:Nat)(l:List UInt8):Nat:=4294967295-q_ (4294967295-n) l
def qfI(n:Nat)(l:List UInt8)(hn:n<4294967296)(hl:Z l<9223372036854775807):∃A,xR fy 226 [.int .u32 (n:Nat),ag l] iB (.int .u32 (uW n l:Nat)) A:=by
 have b:=Qe (n:=4294967295-n) (by omega) l;obtain⟨v,A',h1,h2⟩:∃v A',xR fy 226 [.int .u32 (n:Nat),ag l] iB v A'/\v=.int .u32 (uW n l:Nat):=by
  refine Na (b_ Tryz.func226) EI (by rw[Tryz.ntmps226];simp) ?_;apply W.seq;apply W.run 20
  .intro m;simp only[gL,rL,Aq,V];rfl
  apply W.seq;apply W.run 20
  .intro m;simp(disch:=omega)only[gL,rL,Aq,V,call20,qjM,Value.cells,qb3];rfl
  apply W.seq;apply W.run 20
  .intro m;simp(disch:=omega)only[gL,rL,Aq,V];rfl
  apply W.seq;apply W.seq;apply W.run 20
  .intro m;simp(disch:=decide+kernel)only[gL,rL,Aq,V,lK Un];rfl
  apply W.block;refine qc9 (n0:=4294967295-n) (by omega) hl ⟨rfl,rfl,rfl,by rw[qb5];omega,rfl,?_,?_,?_,?_,?_⟩ ?_
  .simp only[T.cq,T.iD,T.my,V,ak,bR,bO]
  .simp only[T.cq,T.iD,T.my,V,ak,bR,bO];rfl
  .simp only[T.cq,T.iD,T.my,V,ak,bR,bO]
  .simp only[T.cq,T.iD,T.my,V,ak,bR,bO]
  .simp only[T.cq,T.iD,T.my,V,ak,bR,bO];rfl
  intro t A g6;apply W.seq;apply W.run 20
  .intro m;simp(disch:=omega)only[gL,rL,Aq,V,g6];rfl
  apply W.run 20
  .intro m;simp only[gL,rL,Aq,V];rfl
  refine⟨.inr rfl,A,[.int .u32 (uW n l:Nat)],rfl,?_,rfl⟩;simp only[rL,eC,sA,T.cq,V,bR,bO,sq,R.aT];rfl
 subst h2;exact⟨A',h1⟩
def AO:List O->Option O
 | [.int .u32 (.ofNat n),.string s]=>if n<4294967296/\Z s.data.toList<1000000 then U (.int .u32 (uW n s.data.toList:Nat))else Y
 |_=>Y
def qaf:fP fy.P 226 (dV AO):=by
 refine xi T1 (b_ Tryz.func226) EI λ args v h=>?_
 unfold AO at h;split at h
 .rename_i n s;split at h
  .rename_i hn;cases h;obtain⟨A,k,hr⟩:=qfI n s.data.toList hn.1 (by omega);exact⟨by simp[flat],by simp[flat],k,A,hr⟩
  .cases h
 .cases h
def Ba:aO:=fy.sM 226 (dV AO)
def T2:dP Ba:=jy T1 qaf
def call14{ih:aH->St->R (Ex×St)}{l:List UInt8}(hn:n<4294967296)(hl:Z l<1000000):cH Ba ih (.fn 226 [.int .u32 n,ag l]) A=.ok (.val (.int .u32 (uW n l:Nat)) A):=
 qa (c:=(rL.body).getD .skip) (b_ Tryz.func226) (by kernel_rfl) (by kernel_rfl) (h:=dV AO) (by kernel_rfl) (by
  unfold dV;show(match AO [.int .u32 (.ofNat n),.string ⟨⟨l⟩⟩]with|some v=>R.ok (v,A)|none=>.no 600)=_;simp only[AO,aC (And.intro hn hl)])
def zn(l:List UInt8):Nat:=uW 0 l
def qcd(n:Nat)(l:List UInt8):uW n l<4294967296:=by unfold uW;omega
def qgo(l:List UInt8)(hl:Z l<1000000):call Ba 30 180 [ag l] iB=.ok (.val (.int .u32 (zn l:Nat)) iB):=by
 unfold call;simp only[show Ba.fn.get 180=U Tryz.f180 from b_ Tryz.func180];simp only[Tryz.f180,uC,cd,dL];simp(disch:=omega)only[Aq,V,call14];rfl
def A8:List O->Option O
 | [.string s]=>if Z s.data.toList<1000000 then U (.int .u32 (zn s.data.toList:Nat))else Y
 |_=>Y
def qal:fP Ba.P 180 (dV A8):=by
 refine xi T2 (b_ Tryz.func180) (c:=(Tryz.f180.body).getD .skip) (by kernel_rfl) λ args v h=>?_
 unfold A8 at h;split at h
 .rename_i s;split at h
  .rename_i hn;cases h;exact⟨by simp[flat],by simp[flat],30,_,qgo s.data.toList hn⟩
  .cases h
 .cases h
def nY:aO:=Ba.sM 180 (dV A8)
def T3:dP nY:=jy T2 qal
def call11{ih:aH->St->R (Ex×St)}{l:List UInt8}(hl:Z l<1000000):cH nY ih (.fn 180 [ag l]) A=.ok (.val (.int .u32 (zn l:Nat)) A):=
 qa (c:=(Tryz.f180.body).getD .skip) (b_ Tryz.func180) (by kernel_rfl) (by kernel_rfl) (h:=dV A8) (by kernel_rfl) (by
  unfold dV;show(match A8 [.string ⟨⟨l⟩⟩]with|some v=>R.ok (v,A)|none=>.no 600)=_;simp only[A8,aC hl])
def GQ:nY.aB 9=U .string:=oe
def Bk:nY.aB 123=U (.slice 5):=Ui
def qiP:nY.aB 42=U (.int .u32):=Ud
def Ly:nY.aB 5=U (.int .u8):=oc
def LK:eR nY 5=.ok (1,[.int .u8 0]):=by kernel_rfl
def Lq:∃i,nY.ty.get 5=U i/\i.bytes=1:=by
 have h:(nY.ty.get 5).map (·.bytes)=U 1:=by kernel_rfl
 cases hq:nY.ty.get 5 with
 |none=>rw[hq]at h;cases h
 |some i=>rw[hq]at h;exact⟨i,rfl,by simpa using h⟩
def wJ(a:Int):eo nY 123 1 [(0,.int .u8 a)]=.ok (ae 5 [.int .u8 a],.dy 1 2):=by kernel_rfl
def a7(n k:Nat):UInt8:=.ofNat (n>>>(8*k) % 256)
def ZY(h:n<4294967296):four n=(jE 4).map (a7 n):=by
 show _=[a7 n 0,a7 n 1,a7 n 2,a7 n 3];unfold four a7;simp only[uk];have e:n/2^(8*3) % 256=n/16777216:=by
  omega
 rw[e];simp
def oF:=cg qI
def EF:aH:=sub oF [1,1,1,0,1,0,0]
def MY:qI.body=U (.seq (sub oF [0]) (.seq (sub oF [1,0]) (.seq (sub oF [1,1,0]) (.seq (.seq (sub oF [1,1,1,0,0]) (.block 0 (.loop EF))) (.seq (sub oF [1,1,1,1,0]) (sub oF [1,1,1,1,1])))))):=by kernel_rfl
def L6(l:List UInt8)(n k:Nat)(s:St):Prop:=
 s.n=24/\s.d=[]/\s.ro=Y/\∃b,b<s.m.next/\Bytes s.m b 5 .mark (l++((jE k).map (a7 n)))/\s.t.get 3=U (.slice (U ⟨b,0,Y⟩) (Z l+k) (cu (Z l+k) 1))/\s.t.get 4=U (.int .u32 (n:Nat))/\s.t.get 10=U (.int .i64 (k:Nat))
def qg1{l:List UInt8}(hn:n<4294967296)(hl:Z l<1000000){s:St}{K:Ex->St->Prop}(h:L6 l n 0 s)
 (hk:∀(t:T O) (A:Mem) (b:Nat),Bytes A b 5 .mark (l++four n)->t.get 3=U (.slice (U ⟨b,0,Y⟩) (l++four n).length (cu (Z l+4) 1))->K (.exit 0) ⟨t,24,[],A,Y⟩):W nY (.loop EF) s K:=by
 refine W.loop (λ s=>∃k,k<=4/\L6 l n k s) (λ s=>4-(match s.t.get 10 with|some (.int _ i)=>i.toNat|_=>0)) ?_ ⟨0,by omega,h⟩;rintro⟨t,nn,d,A,ro⟩ ⟨k,hk1,h01,h02,h03,b,hbn,hbb,g3,g4,g10⟩;simp only at h01 h02 h03 hbn hbb g3 g4 g10;subst h01 h02 h03;by_cases hlt:k<4
 .have h8:8*k<32:=by omega
  have hv:n>>>(8*k) % 256<256:=iU _ (by omega);have hlen:(l++(jE k).map (a7 n)).length=Z l+k:=by simp
  obtain⟨i,hi,hib⟩:=Lq;have hbb1:Bytes (A.alloc (ae 5 [.int .u8 (n>>>(8*k) % 256:Nat)])) b 5 .mark (l++(jE k).map (a7 n)):=by
   unfold Bytes;rw[c9 (by omega)];exact hbb
  have happ:=Vl Bk Bk LK hi hib (by omega) (.inl rfl) hbb1 (cR _ _) hv;rw[hlen]at happ;have hbl:=happ;apply W.run 20
  .intro m;simp(disch:=first|decide+kernel|omega)only[EF,oF,qI,Aq,V,g3,g4,g10,hlt,wJ,pB,qiP,Ly,happ];rfl
  .refine⟨⟨k+1,by omega,rfl,rfl,rfl,(A.alloc (ae 5 [.int .u8 (n>>>(8*k) % 256:Nat)])).next,?_,?_,?_,?_,?_⟩,?_⟩
   rotate_left 2
   .simp only[T.cq,V,bR,bO];rfl
   .simp only[T.cq,V,bR,bO,g4]
   .simp only[T.cq,V,bR,bO]
   .simp only[T.cq,V,bR,bO,g10,D9];exact Nat.sub_lt_sub_left (by omega) (yg _)
   .simp only[aA,cE];omega
   .unfold Bytes;have e:(A.alloc (ae 5 [.int .u8 (n>>>(8*k) % 256:Nat)])).next=((A.alloc (ae 5 [.int .u8 (n>>>(8*k) % 256:Nat)])).set b .dead).next:=by rw[cE]
    simp only[];have e2:l++ya (a7 n) (jE (k+1))=l++ya (a7 n) (jE k)++[lZ (n>>>(8*k) % 256)]:=by
     rw[List.range_succ,fY,jD];rfl
    rw[e,cR,e2]
 .have hk4:k=4:=by omega
  subst hk4;rw[<-ZY hn]at hbb;apply W.run 20
  .intro m;simp(disch:=decide+kernel)only[EF,oF,qI,Aq,V,g10];rfl
  refine hk _ _ b hbb ?_;simp only[T.cq,V,bR,bO,g3,aU,Ay]
def vf(l:List UInt8):List UInt8:=l++four (zn l)
def qgj(l:List UInt8)(hl:Z l<900000):∃A,xR nY 113 [ag l] iB (ag (vf l)) A:=by
 have b:=qcd 0 l;obtain⟨v,A',h1,h2⟩:∃v A',xR nY 113 [ag l] iB v A'/\v=ag (vf l):=by
  refine Na (b_ Tryz.func113) MY (by rw[Tryz.ntmps113];simp) ?_;apply W.seq;apply W.run 20
  .intro m;simp only[oF,qI,Aq,V];rfl
  apply W.seq;apply W.run 20
  .intro m;simp(disch:=omega)only[oF,qI,Aq,V,QL _ _ _ _ _ _ _ _ _ _ GQ Bk,MU GQ Bk Ly];rfl
  apply W.seq;apply W.run 20
  .intro m;simp(disch:=omega)only[oF,qI,Aq,V,call11];rfl
  apply W.seq;apply W.seq;apply W.run 20
  .intro m;simp(disch:=omega)only[oF,qI,Aq,V];rfl
  apply W.block;refine qg1 (l:=l) (n:=zn l) b (by omega) ⟨rfl,rfl,rfl,iB.next,by simp only[aA];omega,?_,?_,?_,?_⟩ ?_
  .unfold Bytes;simp only[cR,List.range_zero,rB,kR]
  .simp only[T.cq,T.iD,T.my,V,ak,bR,bO,dN]
  .simp only[T.cq,T.iD,T.my,V,ak,bR,bO]
  .simp only[T.cq,T.iD,T.my,V,ak,bR,bO]
  intro t A b hb g3;apply W.seq;apply W.run 20
  .intro m;simp(disch:=omega)only[oF,qI,Aq,V,g3,Ki _ _ _ _ _ _ _ _ _ _ Bk GQ,qh4 Bk GQ Ly hb];rfl
  apply W.run 20
  .intro m;simp only[oF,qI,Aq,V];rfl
  refine⟨.inr rfl,A,[ag (vf l)],rfl,?_,rfl⟩;simp only[qI,eC,sA,T.cq,V,bR,bO,sq,R.aT];rfl
 subst h2;exact⟨A',h1⟩
def ve:List O->Option O
 | [.string s]=>if Z s.data.toList<900000 then U (ag (vf s.data.toList))else Y
 |_=>Y
def JF:fP nY.P 113 (dV ve):=by
 refine xi T3 (b_ Tryz.func113) MY λ args v h=>?_
 unfold ve at h;split at h
 .rename_i s;split at h
  .rename_i hn;cases h;obtain⟨A,k,hr⟩:=qgj s.data.toList hn;exact⟨by simp[flat],by simp[flat,ag],k,A,hr⟩
  .cases h
 .cases h
def Bb:aO:=nY.sM 113 (dV ve)
def qik:dP Bb:=jy T3 JF
def DQ:Bb.aB 9=U .string:=oe
def call13{ih:aH->St->R (Ex×St)}{l:List UInt8}(hl:Z l<900000):cH Bb ih (.fn 113 [ag l]) A=.ok (.val (ag (vf l)) A):=
 qa (c:=(qI.body).getD .skip) (b_ Tryz.func113) (by kernel_rfl) (by kernel_rfl) (h:=dV ve) (by kernel_rfl) (by
  unfold dV;show(match ve [.string ⟨⟨l⟩⟩]with|some v=>R.ok (v,A)|none=>.no 600)=_;simp only[ve,aC hl])
def pF(l:List UInt8):List UInt8×Bool:=
 if Z l<4 then([],af)else if vf (l.take (Z l-4))≠l then([],af)else(l.take (Z l-4),aa)
def KN(l:List UInt8)(hl:Z l<900000):call Bb 30 155 [ag l] iB=.ok (.val (.tuple ⟨[ag (pF l).1,.bool (pF l).2]⟩) iB):=by
 have ht:(l.take (Z l-4)).length<900000:=by rw[db];omega
 unfold call;simp only[show Bb.fn.get 155=U Tryz.f155 from b_ Tryz.func155];simp only[Tryz.f155,uC,cd,dL];by_cases h4:Z l<4
 .simp(disch:=first|omega|decide+kernel|(simp only[Ux,Uw,NJ,NI,T.cq,T.pC,V,bR,bO,Uy,Uz,cL,aI,ba,sZ,xQ,List.toList_toArray]))only[au,aI,ba,T.iD,T.my,CM,CL,Qi,N3,Fe,N5,N4,N2,Jc,RX,RY,QX,QC,QB,QY,QM,Q2,QQ,QR,QP,QO,QE,Q0,QN,QZ,QT,QA,QD,QH,QU,Q1,QK,QS,QV,QI,QJ,AT,sA,sq,NX,NV,N0,eI,oM,mQ,R.aT,Rv,Ru,T.cq,T.pC,MB,Dj,Ra,Re,Q9,Q6,Kl,Q3,Rc,Q5,Rf,Q_,ME,MF,Q8,Q',Q4,MC,DW,LF,Qc,J7,Np,gY,BK,bR,bO,reduceIte,V,ak,ne_eq,not_true_eq_false,not_false_eq_true,decide_true,decide_false,ed,sZ,xQ,TO,TT,TU,TL,TM,TK,TN,TS,TP,TQ,td,Mt,uB,R6,RZ,N1,F5,F6,Q7,MG,DG,Lh,TF,gU,eC,oneOf,Ga,Je,lK DQ,h4];simp[pF,h4]
 .have h4':4<=Z l:=by omega
  by_cases he:vf (l.take (Z l-4))=l
  .simp(disch:=first|decide+kernel|omega|simp only[Wq,V])only[Aq,au,reduceIte,V,ak,lK DQ,Gx DQ,call13,he];simp[pF,h4,he]
  .simp(disch:=first|decide+kernel|omega|simp only[Wq,V])only[Aq,au,reduceIte,V,ak,lK DQ,Gx DQ,call13,he];simp[pF,h4,he]
end Go.Proofs.YtdobfpkceacneaaGreatDoor.crc
namespace Go.Proofs.YtdobfpkceacneaaGreatDoor.crc
def UH(a b:Nat):(a^^^b) % 2=(a % 2+b % 2) % 2:=by
 have h:(a^^^b) % 2^1=a % 2^1^^^b % 2^1:=Nat.xor_mod_two_pow;rw[show(2:Nat)^1=2 by rfl]at h;rw[h];rcases Ei a with ha|ha<;>rcases Ei b with hb|hb<;>rw[ha,hb]<;>rfl
def qp(n:Nat):Nat:=n/2^^^(if n % 2=1 then 3988292384 else 0)
def iF:Nat->Nat->Nat
 |0,n=>n
 |k+1,n=>iF k (qp n)
def Le(a b:Nat):qp (a^^^b)=qp a^^^qp b:=by
 unfold qp;have h1:(a^^^b)/2=a/2^^^b/2:=Nat.xor_div_two;have h2:(a^^^b) % 2=(a % 2+b % 2) % 2:=UH _ _;rw[h1,h2];rcases Ei a with ha|ha<;>rcases Ei b with hb|hb<;>rw[ha,hb]
 .simp
 .simp[wi]
 .simp only[ak,Nat.reduceMod,bR,Nat.zero_ne_one,bO,En];rw[wi,wi,Nat.xor_comm (b/2)]
 .simp only[ak,Nat.reduceMod,bR,Nat.zero_ne_one,bO,En];rw[wi,<-wi 3988292384,Nat.xor_comm 3988292384 (b/2),wi (b/2),Nat.xor_self,En]
theorem DF:∀(k a b:Nat),iF k (a^^^b)=iF k a^^^iF k b
 |0,_,_=>rfl
 |k+1,a,b=>by
  show iF k (qp (a^^^b))=_;rw[Le,DF k];rfl
def qhN(n:Nat):qp (2*n)=n:=by
 unfold qp;rw[aq (by omega),En];omega
theorem GC:∀(k n:Nat),iF k (2^k*n)=n
 |0,n=>by show 2^0*n=n;omega
 |k+1,n=>by
  show iF k (qp (2^(k+1)*n))=n;rw[show 2^(k+1)*n=2*(2^k*n) by rw[zZ];ac_rfl,qhN,GC k]
theorem Lf:∀(j k n:Nat),iF (j+k) n=iF k (iF j n)
 |0,k,n=>by rw[dO];rfl
 |j+1,k,n=>by
  rw[show j+1+k=(j+k)+1 by omega];exact Lf j k _
def Wf(n b:Nat)(hb:b<2):Ck n b=qp (n^^^b):=by
 unfold Ck qp;have h1:(n^^^b)/2=n/2:=by rw[Nat.xor_div_two,show b/2=0 by omega,En]
 have h2:(n^^^b) % 2=(n % 2+b % 2) % 2:=UH _ _;rw[h1,h2];rcases Ei n with hn|hn<;>rcases(show b=0\/b=1 by omega)with rfl|rfl<;>rw[hn]<;>simp
def RP:∀(k n c:Nat),tT k (n,c)=(iF k (n^^^(c % 2^k)),c/2^k):=by
 intro k;have main:∀(k n c:Nat),tT k (n,c)=(iF k n^^^iF k (c % 2^k),c/2^k):=by
  intro k
  induction k with
  |zero=>intro n c;simp[tT,iF,Nat.mod_one]
  |succ k ih=>
   intro n c;show KD (tT k (n,c))=_;rw[ih];unfold KD;simp only[];have hb:c/2^k % 2<2:=iU _ (by omega);rw[Wf _ _ hb];have e1:∀x,qp (iF k x)=iF (k+1) x:=λ x=>by
    have:=Lf k 1 x;rw[this];rfl
   have e2:c % 2^(k+1)=(c % 2^k)^^^(2^k*(c/2^k % 2)):=by
    apply Nat.eq_of_testBit_eq;intro i;rw[Nat.testBit_xor,Nat.testBit_mod_two_pow,Nat.testBit_mod_two_pow,Nat.testBit_two_pow_mul];rcases zX i k with h|h|h
    .simp[h,show i<k+1 by omega,show¬k<=i by omega]
    .subst h;simp[Nat.testBit_eq_decide_div_mod_eq]
    .have:(c/2^k % 2).testBit (i-k)=af:=by
      apply Nat.testBit_lt_two_pow
      calc c/2^k % 2<2:=hb
       _=2^1:=rfl
       _<=2^(i-k):=rI (by omega) (by omega)
     simp[this,show¬i<k by omega,show¬i<k+1 by omega]
   have e3:qp (c/2^k % 2)=iF (k+1) (2^k*(c/2^k % 2)):=by
    rw[<-e1,GC]
   rw[Le,Le,e1,e1,e3,e2,DF,wi,zZ,Nat.div_div_eq_div_mul]
 intro n c;rw[main,DF]
def qim(i:Nat):zp i=iF 4 i:=by
 unfold zp;rw[RP];simp
def UI(n h:Nat):n^^^h=(16*(n/16))^^^(n % 16^^^h):=by
 rw[<-wi];congr 1;apply Nat.eq_of_testBit_eq;intro i;rw[Nat.testBit_xor,show(16:Nat)=2^4 by rfl,Nat.testBit_two_pow_mul,Nat.testBit_mod_two_pow,Nat.testBit_div_two_pow];rcases d_ i 4 with h|h
 .simp[h,show¬4<=i by omega]
 .simp[h,show¬i<4 by omega,show i-4+4=i by omega]
def O8(n h:Nat):AA n h=iF 4 (n^^^h):=by
 have e:iF 4 (n^^^h)=n/16^^^iF 4 (n % 16^^^h):=by
  rw[UI n h,DF,show(16:Nat)*(n/16)=2^4*(n/16) by rfl,GC]
 rw[e];unfold AA;rw[qim,Cd,show n % 256 % 16=n % 16 by omega,uk]
def WV(n:Nat)(c:UInt8):H4 n c.toNat=iF 8 (n^^^c.toNat):=by
 unfold H4;rw[RP];rw[rH c.toNat_lt]
def qhU(n:Nat)(c:UInt8):DE n c=iF 8 (n^^^c.toNat):=by
 unfold DE Bc;rw[O8,O8,Cd,show(8:Nat)=4+4 by rfl,Lf];congr 1;have hc:c.toNat=(16*(c.toNat/16))^^^(c.toNat % 16):=by
  have:=UI c.toNat 0;simpa using this
 have e:n^^^c.toNat=(n^^^c.toNat % 16)^^^(2^4*(c.toNat/16)):=by
  rw[wi,Nat.xor_comm (c.toNat % 16)];exact cV (n^^^·) hc
 have e2:iF 4 (n^^^c.toNat)=iF 4 (n^^^c.toNat % 16)^^^c.toNat/16:=by
  rw[e,DF 4 (n^^^c.toNat % 16),GC]
 rw[e2,uk]
def qce(n:Nat)(l:List UInt8):q_ n l=Li n l:=by
 unfold q_ Li
 induction l generalizing n with
 |nil=>rfl
 |cons c l ih=>simp only[mG];rw[qhU,<-WV];exact ih _
def qib(l:List UInt8):zn l=Ky l:=by
 unfold zn uW Ky;rw[qce]
def SY(l:List UInt8):vf l=ek l:=by unfold vf ek;rw[qib]
def qc6(l:List UInt8):pF (ek l)=(l,aa):=by
 have hl:(ek l).length=Z l+4:=by unfold ek;rw[aU,Ay]
 have ht:(ek l).take ((ek l).length-4)=l:=by rw[hl];unfold ek;simp
 unfold pF;rw[aq (by omega),ht,SY,aq (by simp)]
end Go.Proofs.YtdobfpkceacneaaGreatDoor.crc
namespace Go.Proofs.YtdobfpkceacneaaGreatDoor.crc
open Go.Am
def Dl:List O->Option O
 | [.string s]=>if Z s.data.toList<900000 then U (.tuple ⟨[ag (pF s.data.toList).1,.bool (pF s.data.toList).2]⟩)else Y
 |_=>Y
def Pc:fP Bb.P 155 (dV Dl):=by
 refine xi qik (b_ Tryz.func155) (c:=(Tryz.f155.body).getD .skip) (by kernel_rfl) λ args v h=>?_
 unfold Dl at h;split at h
 .rename_i s;split at h
  .rename_i hn;cases h;exact⟨by simp[flat],by simp[flat,ag],30,_,KN s.data.toList hn⟩
  .cases h
 .cases h
end Go.Proofs.YtdobfpkceacneaaGreatDoor.crc
namespace Go.Proofs.YtdobfpkceacneaaGreatDoor.sto
open Go.Am Go.Mdl Go.Sto Go.Shelf
def qbl:Go.Shelf.Ren:=⟨λ|10=>138|n=>n,λ|33=>207|23=>162|0=>0|4=>4|26=>9|3=>3|n=>n,λ|n=>n⟩
def qbk:Go.Proofs.SlLaysZ.n10 dq qbl:={
 mixed:=by kernel_rfl
 f10:=⟨Tryz.f138.name,by decide,Tryz.func138.trans (cV U (by kernel_rfl))⟩
 t0:=Tryz.underlying0
 a0:=Tryz.isAgg0
 z0:=Tryz.sizeOf0
 v0:=Tryz.zeroValue0
 t4:=HH
 a4:=Tryz.isAgg4
 z4:=Tryz.sizeOf4
 v4:=Tryz.zeroValue4
 t23:=Tryz.underlying162
 a23:=Tryz.isAgg162
 z23:=Tryz.sizeOf162
 v23:=Tryz.zeroValue162
 t26:=Es
 a26:=Tryz.isAgg9
 z26:=Tryz.sizeOf9
 v26:=HJ
 t33:=Tryz.underlying207
 a33:=Tryz.isAgg207
 z33:=Tryz.sizeOf207
 v33:=Tryz.zeroValue207}
def Tr:Go.Shelf.Ren:=⟨λ|6=>84|8=>136|9=>137|11=>192|13=>194|12=>193|23=>240|24=>227|14=>231|15=>232|16=>233|17=>234|18=>235|19=>236|20=>237|21=>238|22=>239|25=>268|26=>269|27=>270|28=>271|29=>272|30=>273|31=>286|n=>n,λ|26=>9|28=>159|24=>52|0=>0|3=>3|37=>295|48=>42|50=>147|4=>4|40=>345|39=>344|45=>223|5=>5|9=>9|51=>389|55=>392|57=>405|58=>309|33=>207|n=>n,λ|n=>n⟩
def qhG:Go.Proofs.SlLaysZ.n6 dq Tr:={
 mixed:=by kernel_rfl
 f6:=⟨Tryz.f84.name,by decide,Tryz.func84.trans (cV U (by kernel_rfl))⟩
 f8:=⟨Tryz.f136.name,by decide,Tryz.func136.trans (cV U (by kernel_rfl))⟩
 f11:=⟨Tryz.f192.name,by decide,Tryz.func192.trans (cV U (by kernel_rfl))⟩
 t0:=Tryz.underlying0
 a0:=Tryz.isAgg0
 z0:=Tryz.sizeOf0
 v0:=Tryz.zeroValue0
 t24:=Tryz.underlying52
 a24:=Tryz.isAgg52
 z24:=Tryz.sizeOf52
 v24:=Tryz.zeroValue52
 t26:=Es
 a26:=Tryz.isAgg9
 z26:=Tryz.sizeOf9
 v26:=HJ
 t28:=Tryz.underlying159
 a28:=Tryz.isAgg159
 z28:=Tryz.sizeOf159
 v28:=Tryz.zeroValue159
 i26:=by kernel_rfl}
def qhD:Go.Shelf.Ren:=⟨λ|6=>137|8=>194|9=>193|19=>240|20=>227|21=>231|22=>232|23=>233|24=>234|25=>235|26=>236|27=>237|28=>238|29=>239|36=>268|31=>269|32=>270|37=>271|38=>272|39=>273|41=>286|n=>n,λ|27=>52|29=>9|3=>3|32=>295|26=>52|0=>0|44=>42|46=>147|4=>4|36=>345|35=>344|41=>223|5=>5|9=>9|53=>389|57=>392|63=>405|64=>309|n=>n,λ|n=>n⟩
def Tq:Go.Proofs.SlLaysM.n6 dq qhD:={
 mixed:=by kernel_rfl
 f6:=⟨Tryz.f137.name,by decide,Tryz.func137.trans (cV U (by kernel_rfl))⟩
 f8:=Tryz.func194.trans (cV U (by kernel_rfl))
 f9:=⟨Tryz.f193.name,by decide,Tryz.func193.trans (cV U (by kernel_rfl))⟩
 f19:=Tryz.func240.trans (cV U (by kernel_rfl))
 f20:=Tryz.func227.trans (cV U (by kernel_rfl))
 f21:=⟨Tryz.f231.name,by decide,Tryz.func231.trans (cV U (by kernel_rfl))⟩
 f22:=⟨Tryz.f232.name,by decide,Tryz.func232.trans (cV U (by kernel_rfl))⟩
 f23:=⟨Tryz.f233.name,by decide,Tryz.func233.trans (cV U (by kernel_rfl))⟩
 f24:=⟨Tryz.f234.name,by decide,Tryz.func234.trans (cV U (by kernel_rfl))⟩
 f25:=⟨Tryz.f235.name,by decide,Tryz.func235.trans (cV U (by kernel_rfl))⟩
 f26:=⟨Tryz.f236.name,by decide,Tryz.func236.trans (cV U (by kernel_rfl))⟩
 f27:=⟨Tryz.f237.name,by decide,Tryz.func237.trans (cV U (by kernel_rfl))⟩
 f28:=⟨Tryz.f238.name,by decide,Tryz.func238.trans (cV U (by kernel_rfl))⟩
 f29:=⟨Tryz.f239.name,by decide,Tryz.func239.trans (cV U (by kernel_rfl))⟩
 f31:=Tryz.func269.trans (cV U (by kernel_rfl))
 f32:=Tryz.func270.trans (cV U (by kernel_rfl))
 f36:=⟨Tryz.f268.name,by decide,Tryz.func268.trans (cV U (by kernel_rfl))⟩
 f37:=⟨Tryz.f271.name,by decide,Tryz.func271.trans (cV U (by kernel_rfl))⟩
 f38:=⟨Tryz.f272.name,by decide,Tryz.func272.trans (cV U (by kernel_rfl))⟩
 f39:=⟨Tryz.f273.name,by decide,Tryz.func273.trans (cV U (by kernel_rfl))⟩
 f41:=⟨Tryz.f286.name,by decide,Tryz.func286.trans (cV U (by kernel_rfl))⟩
 t0:=Tryz.underlying0
 a0:=Tryz.isAgg0
 z0:=Tryz.sizeOf0
 v0:=Tryz.zeroValue0
 t3:=Tryz.underlying3
 a3:=Tryz.isAgg3
 z3:=Tryz.sizeOf3
 v3:=Tryz.zeroValue3
 t4:=HH
 a4:=Tryz.isAgg4
 z4:=Tryz.sizeOf4
 v4:=Tryz.zeroValue4
 t5:=HI
 a5:=Tryz.isAgg5
 z5:=Tryz.sizeOf5
 v5:=Tryz.zeroValue5
 t9:=Es
 a9:=Tryz.isAgg9
 z9:=Tryz.sizeOf9
 v9:=HJ
 t26:=Tryz.underlying52
 a26:=Tryz.isAgg52
 z26:=Tryz.sizeOf52
 v26:=Tryz.zeroValue52
 t27:=Tryz.underlying52
 a27:=Tryz.isAgg52
 z27:=Tryz.sizeOf52
 v27:=Tryz.zeroValue52
 t29:=Es
 a29:=Tryz.isAgg9
 z29:=Tryz.sizeOf9
 v29:=HJ
 t32:=Tryz.underlying295
 a32:=Tryz.isAgg295
 z32:=Tryz.sizeOf295
 v32:=Tryz.zeroValue295
 t35:=Tryz.underlying344
 a35:=Tryz.isAgg344
 z35:=Tryz.sizeOf344
 v35:=Tryz.zeroValue344
 t36:=Tryz.underlying345
 a36:=Tryz.isAgg345
 z36:=Tryz.sizeOf345
 v36:=Tryz.zeroValue345
 t41:=Tryz.underlying223
 a41:=Tryz.isAgg223
 z41:=Tryz.sizeOf223
 v41:=Tryz.zeroValue223
 t44:=Tryz.underlying42
 a44:=Tryz.isAgg42
 z44:=Tryz.sizeOf42
 v44:=Tryz.zeroValue42
 t46:=Tryz.underlying147
 a46:=Tryz.isAgg147
 z46:=Tryz.sizeOf147
 v46:=Tryz.zeroValue147
 t53:=Tryz.underlying389
 a53:=Tryz.isAgg389
 z53:=Tryz.sizeOf389
 v53:=Tryz.zeroValue389
 t57:=Tryz.underlying392
 a57:=Tryz.isAgg392
 z57:=Tryz.sizeOf392
 v57:=Tryz.zeroValue392
 t63:=Tryz.underlying405
 a63:=Tryz.isAgg405
 z63:=Tryz.sizeOf405
 v63:=Tryz.zeroValue405
 t64:=Tryz.underlying309
 a64:=Tryz.isAgg309
 z64:=Tryz.sizeOf309
 v64:=Tryz.zeroValue309}
def kP(ns:List (List UInt8)):List (List UInt8):=ns.mergeSort λ x y=>decide (x<=y)
def tf(args:List O)(A:Mem)(ns:List (List UInt8)):Prop:=∃bp m,args=[.func (.func 138) ⟨[]⟩ ⟨[pw bp 0]⟩]/\VB A 162 bp (.var 1) [.map (U m)]/\A.get m=U (.map (dh ns 0) (Z ns))/\ns.Nodup/\Z ns<1000/\∀n∈ns,Z n<1000
theorem Qg:∀{ns ns':List (List UInt8)} {o:Nat},dh ns o=dh ns' o->ns=ns'
 | [],[],_,_=>rfl
 | [],_::_,_,h=>by cases h
 |_::_,[],_,h=>by cases h
 |n::ns,n'::ns',o,h=>by
  rw[dh,dh,ff]at h;have h1:=cV MapEntry.key h.1;rw[Qg h.2,show n=n' by unfold ag at h1;simpa using h1]
variable {A:Mem}{ns:List (List UInt8)}
def qhF{args:List O}{ns':List (List UInt8)}(h:tf args A ns)(h':tf args A ns'):ns'=ns:=by
 obtain⟨bp,m,rfl,⟨-,c,q1,q2⟩,q3,-⟩:=h;obtain⟨bp',m',e,⟨-,c',r1,r2⟩,r3,-⟩:=h';simp only[ff,Value.func.injEq,G6,Value.pointer.injEq,eM,Addr.mk.injEq,and_true,true_and]at e;subst e;rw[q1]at r1;injection r1 with r1;injection r1 with _ _ _ r1;subst r1;have e2:=(q2 0 (by simp)).symm.trans (r2 0 (by simp));simp only[dX,eM,Value.map.injEq]at e2;subst e2;rw[q3]at r3;injection r3 with r3;injection r3 with r3 _;exact(Qg r3).symm
def pJ(ns:List (List UInt8))(A:Mem):O×Mem:=if ns=[]then(.slice Y 0 0,A.alloc .dead)else(.slice (U ⟨A.next,0,Y⟩) (Z ns) (cu (Z ns) 1),A.alloc (.cells 9 .row 0 (T.bP .e 0 ((kP ns).map ag))))
variable {ι:a8}{w':aG}
def qdy{w:aG}(hs:bZ ι A w ι A w')(hr:Rel ι A w'):Rel ι (A.alloc .dead) w'/\bZ ι A w ι (A.alloc .dead) w':=by
 have hl:∀b,live (A.alloc .dead) b->live A b:=by
  rintro b ⟨o,h1,h2⟩;by_cases e:b=A.next
  .subst e;rw[cR]at h1;cases h1;cases h2
  .exact⟨o,by rwa[c9 e]at h1,h2⟩
 refine⟨⟨λ b hb=>?_,λ b o l h1 h2 h3=>?_,hr.rng,λ b b' l l' h h'=>hr.inj b b' l l' (hl b h) (hl b' h'),λ b t k c h=>?_⟩,⟨by rw[aA];omega,λ _ _=>rfl,λ b l h=>hs.src b l (hl b h),hs.fr,hs.size,hs.os,hs.tape,hs.output,λ b l h h'=>⟨c9 (by have:=h'.1;omega),(hs.kept b l h h').2⟩⟩⟩
 .rw[aA]at hb;rw[c9 (by omega)];exact hr.wf b (by omega)
 .by_cases e:b=A.next
  .subst e;rw[cR]at h1;cases h1;cases h2
  .rw[c9 e]at h1;exact hr.obs b o l h1 h2 h3
 .by_cases e:b=A.next
  .subst e;rw[cR]at h;cases h
  .rw[c9 e]at h;exact hr.gl b t k c h
open Classical in
def CY:List Value->Mem->R (Value×Mem):=λ args A=>if h:∃ns,tf args A ns then .ok (pJ h.choose A)else .no 900
def Z8{args:List O}(h:tf args A ns):CY args A=.ok (pJ ns A):=by
 have h':∃ns,tf args A ns:=⟨ns,h⟩;unfold CY;rw[dif_pos h',qhF h h'.choose_spec]
theorem Qh:∀(ns:List (List UInt8)) (o:Nat),(dh ns o).map (·.key)=ns.map ag
 | [],_=>rfl
 |n::ns,o=>by rw[dh,eU,Qh ns,eU]
theorem J_:∀(ns:List (List UInt8)) (o:Nat),(dh ns o).map (·.born)=(uf o (Z ns))
 | [],_=>rfl
 |n::ns,o=>by rw[dh,eU,J_ ns,cd,List.range'_succ]
def qhH(m:Nat):AnyZ.SortsIn dq Tr Fence.wide m:=
 ⟨λ blk off cap ss W hH hblk hsz=>callsIn_wide.2 (AnyM.slices_Sort_string Tq blk off cap ss W hH hblk hsz),λ p cap W=>callsIn_wide.2 (AnyM.slices_Sort_string_none Tq p cap W)⟩
abbrev Dc:O->Option (DataW Unit×List MemPlace):=λ _=>U (.nil,[])
variable {b:Nat}
def RD{n:List UInt8}(hn:Z n<1000){v:O}:WideElems.rd dq 9 Dc ⟨ag n,v,b⟩=U (.string n,.nil):=by
 have hu:=Es;have hl:(⟨⟨n⟩⟩:ByteArray).size<=maxLen:=by
  show Z n<=maxLen;unfold maxLen;omega
 unfold WideElems.rd keyOf mapKey ag;simp only[hu,aC hl];rfl
def bn.qcv{a:Array O}(h:bn ι [] a.toList):a= #[]:=by
 obtain⟨l⟩:=a;cases h;rfl
def bn.Qx{v:O}{a:Array O}(h:bn ι [v] a.toList):∃v',a= #[v']/\VR ι v v':=by
 obtain⟨l⟩:=a;cases h with
 |cons h1 h2=>cases h2;exact⟨_,rfl,h1⟩
def LZ(args:List O)(A:Mem)(ns:List (List UInt8)):Prop:=∃bp m es k,args=[.func (.func 138) ⟨[]⟩ ⟨[pw bp 0]⟩]/\VB A 162 bp (.var 1) [.map (U m)]/\A.get m=U (.map es k)/\es.map (·.key)=ns.map ag/\k<1000/\((∀b∈es.map (·.born),b<k)/\(es.map (·.born)).Nodup)/\ns.Nodup/\Z ns<=k/\∀n∈ns,Z n<1000
theorem NT:∀{ns:List (List UInt8)} {es l:List MapEntry},es.map (·.key)=ns.map ag->iT ι es l->l.map (·.key)=ns.map ag/\l.map (·.born)=es.map (·.born)
 | [],[],_,_,h=>by cases h;exact⟨rfl,rfl⟩
 |n::ns,e::es,l,hk,h=>by
  rw[eU,eU,ff]at hk;cases h with
  |cons h1 hb hv ht=>
   obtain⟨i1,i2⟩:=NT hk.2 ht;rw[hk.1]at h1;rename_i e' l';have h1':e'.key=ag n:=by generalize e'.key=q at h1;cases h1;rfl
   exact⟨by rw[eU,eU,i1,h1'],by rw[eU,eU,i2,hb]⟩
 | [],_::_,_,hk,_=>by cases hk
 |_::_,[],_,hk,_=>by cases hk
theorem PJ:∀{ns:List (List UInt8)} {l:List MapEntry},l.map (·.key)=ns.map ag->(∀n∈ns,Z n<1000)->l.map (WideElems.rg dq 9 Dc)=ns.map λ n=>(.string n,.nil)
 | [],[],_,_=>rfl
 |n::ns,e::l,hk,h=>by
  rw[eU,eU,ff]at hk;rw[eU,eU,PJ hk.2 λ n hn=>h n (cU _ hn)];obtain⟨key,v,b⟩:=e;obtain rfl:=hk.1;unfold WideElems.rg;rw[RD (h n cM)];rfl
 | [],_::_,hk,_=>by cases hk
 |_::_,[],hk,_=>by cases hk
def Pb{h:List O->Mem->R (O×Mem)}(hh:∀args A r,h args A=.ok r->∃ns,LZ args A ns/\r=pJ ns A):fP bc.P 84 h:=by
 intro args A v A' ha;obtain⟨ns,hs,hr0⟩:=hh _ _ _ ha;obtain⟨rfl,rfl⟩:(pJ ns A).1=v/\(pJ ns A).2=A':=by rw[<-hr0];exact⟨rfl,rfl⟩
 clear hr0 ha hh;obtain⟨bp,m,es,kk,rfl,⟨-,c,q1,q2⟩,q3,hke,hk1,⟨hb1,hb2⟩,hnd,hl,hn⟩:=hs;refine⟨by unfold pJ;split<;>(show A.next<=(A.alloc _).next;rw[aA];omega),λ ι w args' hr hargs hf fr cs=>?_⟩;obtain⟨l,hlb,rfl⟩:∃l,ι bp=U l/\args'= #[.func (.func 138) #[] #[.pointer (U ⟨l.blk,0+l.sh,Y⟩)]]:=by
  obtain⟨v',rfl,hv⟩:=bn.Qx hargs;cases hv;rename_i a' b' h1 h2;obtain rfl:=bn.qcv h1;obtain⟨v2,rfl,h3⟩:=bn.Qx h2;cases h3;rename_i h5;exact⟨_,h5,rfl⟩
 obtain⟨o1,g1,cs1,fr1,rfl,g2,g3,g4,g5,g6⟩:=hr.obs bp _ l q1 rfl hlb;obtain⟨v1,g7,g8⟩:=g3 0 _ (q2 0 (by simp));cases g8 with
 |map hm=>
 rename_i lm;obtain⟨o2,k1,-,es',rfl,k2⟩:=hr.obs m _ lm q3 rfl hm;obtain⟨hes,hbn⟩:=NT hke k2;have hcell:w.cell? ⟨l.blk,0,Y⟩=U (.map (U lm.blk)):=by
  unfold World.cell?;rw[g4]at g7;simp only[g1];exact g7
 have hkn:(es'.toList.map (·.key)).Nodup:=by
  rw[hes];exact List.pairwise_map.2 (hnd.imp λ hne e=>hne (by unfold ag at e;simpa using e))
 have hsz:es'.size=Z ns:=by rw[<-xO,<-aR,hes,aR]
 have hF:WideElems.Fit dq 9 Dc es' kk:=⟨by rw[hsz];unfold maxLen;omega,⟨λ x hx=>hb1 _ (by
  have:x.born∈es'.toList.map (·.born):=List.mem_map_of_mem hx;rwa[hbn]at this),by rw[hbn];exact hb2,hkn⟩,λ x hx=>by
  have:x.key∈es'.toList.map (·.key):=List.mem_map_of_mem hx;rw[hes]at this;obtain⟨n,h1,h2⟩:=dA.1 this;obtain⟨key,v,b⟩:=x;cases h2;exact⟨_,RD (hn n h1)⟩⟩
 generalize hD:((es'.toList.map (WideElems.rg dq 9 Dc)).foldr DataW.insert []:List (Lit×DataW Unit))=D at*;have hown:w.ownsMap dq 9 Dc lm.blk kk (.map D):=⟨es',kk,k1,hF,by omega,by rw[<-hD]⟩;have hperm:D.Perm (ns.map λ n=>(.string n,.nil)):=by
  rw[<-hD,PJ hes hn];exact Go.WideShapes.sorted_perm _
 have hDl:Z D=Z ns:=by rw[hperm.length_eq,aR]
 have hstr:(Go.strKeys (.map D:DataW Unit)).Perm ns:=by
  have:=hperm.map λ p:Lit×DataW Unit=>Go.strOf p.1
  rw[zO]at this;exact this.trans (by rw[show(λ p:Lit×DataW Unit=>Go.strOf p.1)∘(λ n=>((.string n,.nil):Lit×DataW Unit))=id from rfl,List.map_id])
 have hms:Maps.size (.map D:DataW Unit)=Z ns:=hDl;have hseq:SeqGives Fence.wide 2 dq 138 #[.pointer (U ⟨l.blk,0+l.sh,Y⟩)] encStr (λ ss=>ss.Perm (Go.strKeys (.map D:DataW Unit))) (Maps.size (.map D:DataW Unit)) w:=by
  rw[g4];exact AnyZ.keys_gives qbk Fence.wide 2 trivial rfl (by omega) l.blk lm.blk kk (.map D) w (hr.rng _ _ hlb) hcell hown
 have hcall:=callsIn_wide.1 (AnyZ.sorted_in qhG Fence.wide 5 trivial trivial trivial trivial rfl (by omega) (qhH _) (enters_of Tryz.func137 (by kernel_rfl) rfl) 138 _ trivial (enters_of Tryz.func138 (by kernel_rfl) rfl) _ _ (by rw[hms];unfold maxLen;omega) (by rw[hms];omega) w hseq);obtain⟨e,w',fr0,⟨v,ss,rfl,hss,hrow,hnil,hB⟩,st,-,hlv⟩:=hcall (fr::cs);have hssn:=hss.trans hstr;have hsl:=hssn.length_eq;have hm:(ss.mergeSort λ x y=>decide (x<=y))=kP ns:=Go.mergeSort_of_perm hssn;rw[hm]at hrow;by_cases h0:ns=[]
 .have hv:=hnil.2 (eQ.1 (by rw[hsl,h0];rfl));have hL:Go.Am.Leaves w w':=⟨λ k hk=>hB.block k hk,hB.size,hB.os,hB.tape,hB.output⟩;obtain⟨e1,e2⟩:=PR hr hL;obtain⟨e3,e4⟩:=qdy e2 e1;unfold pJ at hf⊢;rw[aC h0]at hf⊢;exact⟨ι,w',_,Steps.trans st (.one (step_leave_returned hlv)),by rw[hv];exact .slN,e3,e4⟩
 unfold pJ at hf⊢;rw[aq h0]at hf⊢;obtain⟨-,⟨-,hz⟩|⟨g,cap,cur,rfl,r1,r2,r3,r4,r5,r6⟩⟩:=hrow
 .exact aZ (eQ.1 (hsl▸hz)) h0
 rw[nf]at r5 r6;have hsn:(kP ns).length=Z ns:=List.length_mergeSort ns;have hor:∀(i:Nat) (v:O),(T.bP .e 0 ((kP ns).map ag)).get i=U v->∃v',cur[i+0]?=U v'/\∀ι',VR ι' v v':=λ i v hi=>by
  rw[T.oO]at hi;split at hi
  .rename_i hlt;rw[aR]at hlt;rw[iV,da]at hi;have e1:((kP ns).map encStr)[i]?=U v:=by rw[da];exact hi
   rw[<-r6,oz,aC (by omega),fW]at e1;refine⟨v,e1,λ ι'=>?_⟩;rw[aV (by omega)]at hi;cases hi;exact .string _
  .rw[T.pC]at hi;cases hi
 obtain⟨ι',i1,i2,i3⟩:=hr.No (ob:=.cells 9 .row 0 (T.bP .e 0 ((kP ns).map ag))) (hf A.next (aJ _) (by show A.next<(A.alloc _).next;rw[aA];omega)) (λ t k c h=>by
  injection h with _ _ h;unfold GB at h;omega) r1 ⟨hB.size,r2,λ k hk _=>hB.block k hk,hB.os,hB.tape,hB.output⟩ (fU.1 r2).1 λ ι' _ _=>⟨cur,(0,0),rfl,r5,λ i v hi=>(hor i v hi).imp λ v' h=>⟨h.1,h.2 ι'⟩,a6 _⟩
 refine⟨ι',w',_,Steps.trans st (.one (step_leave_returned hlv)),?_,i2,i3⟩;have hcn:bH (cu (Z ns) 1)=Z ns:=gB (by omega);have:=VR.slX (len:=Z ns) (k:=cu (Z ns) 1) (cap':=cap) i1 (iK _ _) (by omega) (by rw[lj (by omega)];show 0+cap*1<=cap;omega) (λ _=>rfl) (by unfold maxLen at r4;omega) (by omega);rw[hsl];exact this
def tf.gen{args:List O}(h:tf args A ns):LZ args A ns:=by
 obtain⟨bp,m,h1,h2,h3,h4,h5,h6⟩:=h;exact⟨bp,m,_,_,h1,h2,h3,Qh ns 0,h5,⟨λ b hb=>(by rw[J_,List.mem_range'_1]at hb;omega),by rw[J_];exact List.nodup_range'⟩,h4,aJ _,h6⟩
def qaj:fP bc.P 84 CY:=Pb λ args A r h=>by
 unfold CY at h;by_cases hc:∃ns,tf args A ns
 .rw[dif_pos hc]at h;exact⟨_,hc.choose_spec.gen,(R.ok.inj h).symm⟩
 .rw[dif_neg hc]at h;cases h
end Go.Proofs.YtdobfpkceacneaaGreatDoor.sto
namespace Go.Am
def qW{X:Type}(P:X->Prop)(a:X->List O)(r:X->O):List O->Option O:=λ args=>
 open Classical in if h:∃x,P x/\args=a x then U (r h.choose)else Y
def ZM{X:Type}{P:X->Prop}{a:X->List O}{r:X->O}(hi:∀x y,a x=a y->r x=r y){x:X}(hx:P x):qW P a r (a x)=U (r x):=by
 unfold qW;have h:∃y,P y/\a x=a y:=⟨x,hx,rfl⟩;rw[dif_pos h,hi _ _ h.choose_spec.2.symm]
variable {tb:aO}
variable {fn:Func}
def y5 (ok:dP tb) {f:FuncId} {c:Code} {X:Type} {P:X->Prop} {a:X->List Value} {r:X->Value} (hf:tb.fn.get f=some fn) (hb:fn.body=some c) (hnm:(fn.name== "runtime.NumGoroutine")=false) (hk:tb.hk.get f=none)
 (h:∀x,P x->(∀v∈a x,flat 9 v=aa)/\flat 9 (r x)=aa/\∃A',az tb f (a x) iB (r x) A'):fP tb.P f (dV (qW P a r)):=by
 refine xi ok hf hb λ args v hv=>?_
 unfold qW at hv;split at hv
 .rename_i hx;cases hv;obtain⟨hp,he⟩:=hx.choose_spec;obtain⟨h1,h2,A',h3⟩:=h _ hp;obtain⟨n,hn⟩:=Mk hf hb hnm hk h3;refine⟨λ v hv=>h1 v (he▸hv),h2,n,A',?_⟩;rw[<-hn];exact cV (λ l=>call tb n f l iB) he
 .cases hv
def yO {ih:Code->St->R (Ex×St)} {A:Mem} {f:FuncId} {c:Code} {X:Type} {P:X->Prop} {a:X->List Value} {r:X->Value} (hf:tb.fn.get f=some fn) (hn:(fn.name== "runtime.NumGoroutine")=false) (hb:fn.body=some c)
 (hk:tb.hk.get f=U (dV (qW P a r))) (hi:∀x y,a x=a y->r x=r y) {x:X} (hx:P x):cH tb ih (.fn f (a x)) A=.ok (.val (r x) A):=by
 refine qa hf hn hb hk ?_;unfold dV;rw[ZM hi hx]
end Go.Am
namespace Go.Proofs.YtdobfpkceacneaaGreatDoor.sto
open Go.Am Go.Mdl Go.Sto
def str_inj{a b:List UInt8}(h:ag a=ag b):a=b:=by unfold ag at h;simpa using h
def B_(x:List UInt8×Nat):List O:=[ag x.1,.int .i64 x.2]
def Rj(x:List UInt8×Nat):Prop:=x.1.length<1000000/\x.2<=x.1.length
def qap:∀x y,B_ x=B_ y->uQ (qd x.1 x.2)=uQ (qd y.1 y.2):=by
 rintro⟨s,a⟩ ⟨s',a'⟩ h;simp only[B_,ff,Value.int.injEq,and_true,true_and]at h;obtain⟨h1,h2⟩:=h;cases str_inj h1;cases zK h2;rfl
def O4:=dV (qW Rj B_ λ x=>uQ (qd x.1 x.2))
def qab:fP bc.P 254 O4:=y5 rm (b_ Tryz.func254) Ii (by kernel_rfl) (by kernel_rfl) λ x hx=>⟨by simp[B_,flat,ag],by simp[uQ,flat],by
 obtain⟨v,A',h,rfl⟩:=run_get hx.1 hx.2;exact⟨A',h⟩⟩
def Ca(x:Nat):List O:=[.int .u64 x]
def qci{x y:Nat}(h:Ca x=Ca y):x=y:=by
 simp only[Ca,ff,Value.int.injEq,and_true,true_and]at h;exact zK h
def O5:=dV (qW (λ x:Nat=>x<18446744073709551616) Ca λ x=>.agg ⟨jz x⟩)
def qbs(x:Nat):flat 9 (.agg ⟨jz x⟩)=aa:=by
 simp only[flat,jz,gH,dw,List.all_append,List.all_map,List.all_replicate,Eb,List.all_nil,sY,dz];simp[Function.comp_def,flat,gd]
def qac:fP bc.P 181 O5:=y5 rm (b_ Tryz.func181) Iu (by kernel_rfl) (by kernel_rfl) λ x hx=>⟨by simp[Ca,flat],qbs x,by
 obtain⟨v,A',h,rfl⟩:=Ss hx;exact⟨A',h⟩⟩
def Cb(w:List UInt8):List O:=[ag w]
def qcj{x y:List UInt8}(h:Cb x=Cb y):x=y:=by
 simp only[Cb,ff,and_true]at h;exact str_inj h
def O6:=dV (qW (λ _=>True) Cb λ w=>.bool (decide (0<Z w/\Z w<=64)))
def qad:fP bc.P 140 O6:=y5 rm (b_ Tryz.func140) (c:=Tryz.f140.body.getD .skip) (by kernel_rfl) (by kernel_rfl) (by kernel_rfl) λ x _=>⟨by simp[Cb,flat,ag],by simp[flat],_,qfF⟩
def Cc(x:Nat×Bool):List O:=[.agg ⟨[.int .u64 x.1,.bool x.2]⟩]
def qck{x y:Nat×Bool}(h:Cc x=Cc y):x=y:=by
 obtain⟨a,b⟩:=x;obtain⟨a',b'⟩:=y;simp only[Cc,ff,Value.agg.injEq,G6,Value.int.injEq,Value.bool.injEq,and_true,true_and]at h;cases zK h.1;cases h.2;rfl
def O7:=dV (qW (λ _=>True) Cc λ x=>.bool (x.2&&decide (x.1<=4294967296)))
def qam:fP bc.P 219 O7:=y5 rm (b_ Tryz.func219) (c:=Tryz.f219.body.getD .skip) (by kernel_rfl) (by kernel_rfl) (by kernel_rfl) λ x _=>⟨by simp[Cc,flat],by simp[flat],_,qgp⟩
def bare(e:aD):aD:=if e.gone then⟨e.word,0,aa⟩else e
def O2:=dV (qW (λ _=>True) B0 λ e=>.agg ⟨aS (bare e)⟩)
def Mf{t:aj}(h:(bc.aB t).map cW=U aa):∃d,bc.aB t=U d/\cW d=aa:=by
 cases hq:bc.aB t with
 |none=>rw[hq]at h;cases h
 |some d=>rw[hq]at h;exact⟨d,rfl,by simpa using h⟩
def LN:cX bc 44=.ok (.agg ⟨[.string .empty,wN 0,.bool af]⟩):=by kernel_rfl
def qhl:aY bc 42=.ok 1:=by kernel_rfl
def I6(e:aD):∀v∈aS e,bI v=aa:=by
 intro v hv;simp only[aS,cC,en,or_false]at hv;rcases hv with rfl|rfl|rfl<;>rfl
variable {e:aD}
def qeG{A:Mem}:∃v A',az bc 185 [.agg ⟨aS e⟩] A v A'/\v=.agg ⟨aS (bare e)⟩:=by
 have v1:=aK A 44 (aS e);generalize hB:A.alloc (ae 44 (aS e))=B at v1;have v2:=aK B 44 [.string .empty,.int .u32 (0:Nat),.bool af];have v1:=v1.kp (Kp.alloc B (ae 44 [.string .empty,.int .u32 (0:Nat),.bool af]));have hne:B.next≠A.next:=by rw[<-hB,aA];omega
 generalize hC:B.alloc (ae 44 [.string .empty,.int .u32 (0:Nat),.bool af])=C at v2 v1;have lg:=v1.l2 DO rfl;obtain⟨d,hd1,hd2⟩:=Mf (by kernel_rfl);cases hg:e.gone with
 |true=>
  rw[hg]at lg;obtain⟨D,sD,vD,nD,fD⟩:=df (o:=1) (v:=.int .u32 (0:Nat)) qhl v1.2 (by simp[aS]) rfl rfl;have el:(aS e).set 1 (.int .u32 (0:Nat))=aS (bare e):=by simp[aS,bare,hg]
  rw[el]at vD;have lw:=bU hd1 hd2 AZ vD;obtain⟨E,sE,vE,-⟩:=ja (l':=aS (bare e)) (by exact AZ) (v2.2.same (fD _ hne)) rfl (by simp) (I6 _);have lE:ax bc E.get 44 (.pointer (U ⟨B.next,0,Y⟩))=.ok (.agg ⟨aS (bare e)⟩):=bU hd1 hd2 AZ vE;refine⟨_,E,?_,rfl⟩;refine cG 60 (b_ Tryz.func185) (by kernel_rfl) λ M=>?_
  simp(disch:=omega)only[Tryz.f185,Aq,V,aX,LN,hB,hC,YT,NK,lg,sD,lw,sE,lE]<;>rfl
 |false=>
  rw[hg]at lg;have el:aS e=aS (bare e):=by simp[bare,hg]
  have lw:ax bc C.get 44 (.pointer (U ⟨A.next,0,Y⟩))=.ok (.agg ⟨aS e⟩):=bU hd1 hd2 AZ v1.2;obtain⟨E,sE,vE,-⟩:=ja (l':=aS e) (by exact AZ) v2.2 rfl (by simp) (I6 _);have lE:ax bc E.get 44 (.pointer (U ⟨B.next,0,Y⟩))=.ok (.agg ⟨aS e⟩):=bU hd1 hd2 AZ vE;refine⟨_,E,?_,cV (λ l=>Value.agg ⟨l⟩) el⟩;refine cG 60 (b_ Tryz.func185) (by kernel_rfl) λ M=>?_
  simp(disch:=omega)only[Tryz.f185,Aq,V,aX,LN,hB,hC,NK,lg,lw,sE,lE]<;>rfl
def Z':fP bc.P 185 O2:=y5 rm (b_ Tryz.func185) (c:=Tryz.f185.body.getD .skip) (by kernel_rfl) (by kernel_rfl) (by kernel_rfl) λ e _=>⟨by simp[B0,aS,flat,ag],by simp[aS,flat,ag],by
 obtain⟨v,A',h,rfl⟩:=qeG;exact⟨A',h⟩⟩
def HM(x:(Nat×Bool)×Nat):List O:=[.agg ⟨[.int .u64 x.1.1,.bool x.1.2]⟩,.int .u64 x.2]
def hAnd:=dV (qW (λ x:(Nat×Bool)×Nat=>x.1.1+x.2<18446744073709551616) HM λ x=>.agg ⟨[.int .u64 (x.1.1+x.2:Nat),.bool x.1.2]⟩)
variable {n m:Nat}
def X6{ih:aH->St->R (Ex×St)}{A:Mem}(h:n+m<18446744073709551616):cH bc ih (.fn 258 [.int .u64 n,.int .u64 m,uN 0]) A=.ok (.val (.tuple ⟨[uN (n+m),uN 0]⟩) A):=by
 have e:cH bc ih (.fn 258 [.int .u64 n,.int .u64 m,uN 0]) A=.ok (.val (.tuple ⟨[uN ((n+m+0) % 18446744073709551616),uN ((n+m+0)/18446744073709551616)]⟩) A):=by kernel_rfl
 rw[e,dN,rH h,Nat.div_eq_of_lt h]
def Tf:aY bc 321=.ok 2:=by kernel_rfl
def qjD:cX bc 321=.ok (.agg ⟨[uN 0,.bool af]⟩):=by kernel_rfl
variable {b o:Nat}
def Zx:bM bc 321 (pw b o) 0=.ok (pw b o):=by kernel_rfl
def Zy:bM bc 321 (pw b o) 1=.ok (pw b (o+1)):=by kernel_rfl
def VT{x:Int}{f:Bool}:ef bc 321 [(0,.int .u64 x),(1,.bool f)]=.ok (.agg ⟨[.int .u64 x,.bool f]⟩):=by kernel_rfl
def qeD{A:Mem}{f:Bool}(h:n+m<18446744073709551616):∃v A',az bc 217 [.agg ⟨[.int .u64 n,.bool f]⟩,.int .u64 m] A v A'/\v=.agg ⟨[uN (n+m),.bool f]⟩:=by
 have v1:=aK A 321 [.int .u64 n,.bool f];generalize hB:A.alloc (ae 321 [.int .u64 n,.bool f])=B at v1;have v2:=aK B 321 [uN 0,.bool af];have v1:=v1.kp (Kp.alloc B (ae 321 [uN 0,.bool af]));generalize hC:B.alloc (ae 321 [uN 0,.bool af])=C at v2 v1;have l1:=v1.l0 tY rfl;have l2:=v1.m1 DO rfl;obtain⟨d,hd1,hd2⟩:=Mf (by kernel_rfl);have ka:=λ ih=>X6 (ih:=ih) (A:=C) h
 obtain⟨E,sE,vE,-⟩:=ja (l':=[uN (n+m),.bool f]) (by exact Tf) v2.2 rfl (by simp) (by simp[bI]);have lE:=bU hd1 hd2 Tf vE;refine⟨_,E,?_,rfl⟩;cases f
 all_goals
  refine cG 60 (b_ Tryz.func217) (by kernel_rfl) λ M=>?_
  simp(disch:=first|decide+kernel|omega|simp only[Wq,V])only[Tryz.f217,Aq,au,reduceIte,V,ak,aX,qjD,hB,hC,Zx,Zy,l1,l2,ka,VT,sE,lE,dX,dU]<;>rfl
def Z_:fP bc.P 217 hAnd:=y5 rm (b_ Tryz.func217) (c:=Tryz.f217.body.getD .skip) (by kernel_rfl) (by kernel_rfl) (by kernel_rfl) λ x hx=>⟨by simp[HM,flat],by simp[flat],by
 obtain⟨v,A',h,rfl⟩:=qeD hx;exact⟨A',h⟩⟩
def HN(n:Nat):List O:=[.int .u64 n,iN 36]
def O3:=dV (qW (λ n:Nat=>n<18446744073709551616) HN λ n=>ag (nQ n))
def qaa:fP bc.P 248 O3:=y5 rm (b_ Tryz.func248) (c:=Tryz.f248.body.getD .skip) (by kernel_rfl) (by kernel_rfl) (by kernel_rfl) λ n hn=>⟨by simp[HN,flat],by simp[flat,ag],qfl hn⟩
def iQ(n:Nat):List UInt8:=bif aM n 10 then [115,101,103,45,.ofNat (48+n)]else [115,101,103,45,49,.ofNat (38+n)]
def AL:List UInt8:=[109,97,110,105,102,101,115,116]
def F0(n:Int):List UInt8:=if 0<n then iQ n.toNat else []
def lT:List UInt8:=[109,97,110,105,102,101,115,116,46,116,109,112]
def names:zV:=([.int .i64 1,.int .i64 0],ag AL)::([.int .i64 2,.int .i64 0],ag lT)::(jE 23).map λ i=>([.int .i64 4,.int .i64 (Int.subNatNat i 11)],ag (F0 (Int.subNatNat i 11)))
def qcl:J6 bc 100000 42 names=aa:=by kernel_rfl
variable {fn:Func}
def qae{f:FuncId}{c:aH}(hf:bc.fn.get f=U fn)(hb:fn.body=U c){l:zV}(h:J6 bc n f l=aa):fP bc.P f (dV (xy l)):=(qb6 rm hf hb h).hk f _ (by simp only[aO.sM,T.cq];rfl)
def qag:fP bc.P 42 (dV (xy names)):=qae (b_ Tryz.func42) (c:=Tryz.f42.body.getD .skip) (by kernel_rfl) qcl
def mr:T (List O->Mem->R (O×Mem)):=((((((((((bc.hk.set 113 (dV crc.ve)).set 181 O5).set 254 O4).set 140 O6).set 219 O7).set 185 O2).set 217 hAnd).set 248 O3).set 42 (dV (xy names))).set 155 (dV crc.Dl)).set 84 CY
def bk:aO:={bc with hk:=mr}
def T5:dP bk:=jy (jy (jy (jy (jy (jy (jy (jy (jy (jy (jy rm crc.JF) qac) qab) qad) qam) Z') Z_) qaa) qag) crc.Pc) qaj
variable {k:Nat}
def oN(h:dq.funcs[k]?=U fn):bk.fn.get k=U fn:=b_ h
def Pa{h:List O->Mem->R (O×Mem)}(e:mr.get k=U h):bk.hk.get k=U h:=e
section
variable {ih:aH->St->R (Ex×St)}{A:Mem}
def qa7{s:List UInt8}{a:Nat}(hs:Z s<1000000)(ha:a<=Z s):cH bk ih (.fn 254 [ag s,.int .i64 a]) A=.ok (.val (uQ (qd s a)) A):=
 yO (oN Tryz.func254) (by kernel_rfl) Ii (Pa (by simp only[mr,T.cq];rfl)) qap (show Rj (s,a)from⟨hs,ha⟩)
def qba{s:List UInt8}(hs:Z s<900000):cH bk ih (.fn 155 [ag s]) A=.ok (.val (.tuple ⟨[ag (crc.pF s).1,.bool (crc.pF s).2]⟩) A):=
 qa (oN Tryz.func155) (by kernel_rfl) (c:=Tryz.f155.body.getD .skip) (by kernel_rfl) (Pa (by simp only[mr,T.cq];rfl)) (by
  have e:crc.Dl [ag s]=U (.tuple ⟨[ag (crc.pF s).1,.bool (crc.pF s).2]⟩):=aC hs;unfold dV;rw[e])
end
end Go.Proofs.YtdobfpkceacneaaGreatDoor.sto
namespace Go.Proofs.YtdobfpkceacneaaGreatDoor.sto
open Go.Am Go.Mdl Go.Sto Go.Shelf
theorem P4(n:Nat):∀{m i:Nat},i<m->(qg n m)[i]?=U (.ofNat (n>>>(8*i) % 256))
 |m+1,i,h=>by
  unfold qg;rcases d_ i m with h1|h1
  .rw[eG (by rw[y8];exact h1)];exact P4 n h1
  .rw[ez (by rw[y8];exact h1),y8,show i-m=0 by omega,show i=m by omega];rfl
variable {n:Nat}
theorem ON{s:List UInt8}{a:Nat}:∀{i:Nat},(∀j,j<i->s[a+1+j]?=U (.ofNat (n>>>(8*j) % 256)))->mS s a i=n % 2^(8*i)
 |0,_=>by simp[mS,Nat.mod_one]
 |i+1,h=>by
  unfold mS;rw[ON λ j hj=>h j (by omega)];have h1:s.getD (a+1+i) 0=.ofNat (n>>>(8*i) % 256):=by rw[ow,h i (by omega)];rfl
  rw[h1,HL (show n>>>(8*i) % 256<256 by omega),Nat.or_comm,<-Nat.shiftLeft_add_eq_or_of_lt (iU _ (yj _)),Hw,uk,show 8*(i+1)=8*i+8 by omega,BL,show(2:Nat)^8=256 from rfl,Nat.mod_mul,Nat.mul_comm (n/2^(8*i) % 256),ye]
def tR(n:Nat)(hn:n<18446744073709551616):(cZ n).length<=9:=by
 have:=FU hn;rw[F1];unfold kz;split<;>omega
def Kc(n:Nat):0<(cZ n).length:=by
 rw[F1];unfold kz;split<;>omega
def xh{s r:List UInt8}{a:Nat}(hn:n<18446744073709551616)(h:s.drop a=cZ n++r):qd s a=(n,a+(cZ n).length,0)/\s.drop (a+(cZ n).length)=r/\a+(cZ n).length<=Z s:=by
 have hr:s.drop (a+(cZ n).length)=r:=by rw[<-He,h,List.drop_left]
 have hlen:Z s-a=(cZ n).length+Z r:=by rw[<-qx,h,aU]
 have hg:∀j x,(cZ n)[j]?=U x->s[a+j]?=U x:=λ j x hx=>by
  rw[<-rz,h,eG (bg.1 hx).1];exact hx
 have hpos:=Kc n;refine⟨?_,hr,by omega⟩;unfold qd;rw[aq (by omega)];by_cases h248:n<248
 .have e:cZ n=[.ofNat n]:=by unfold cZ;rw[aC h248]
  have h0:(s.getD a 0).toNat=n:=by
   rw[ow,show s[a]?=U (.ofNat n)from hg 0 (.ofNat n) (by rw[e];rfl)];exact HL (show n<256 by omega)
  rw[h0,aC h248,e];rfl
 .have e:cZ n=.ofNat (247+c6 n)::qg n (c6 n):=by unfold cZ;rw[aq h248]
  have hl:=FU hn;have el:(cZ n).length=1+c6 n:=by rw[e,cd,y8];omega
  have hb:f_ n=n.log2+1:=by unfold f_;rw[aq (by omega)]
  have hlp:0<c6 n:=by unfold c6;omega
  have h0:(s.getD a 0).toNat=247+c6 n:=by
   rw[ow,show s[a]?=U (.ofNat (247+c6 n))from hg 0 _ (by rw[e];rfl)];exact HL (show 247+c6 n<256 by omega)
  have hlt:n<2^(8*c6 n):=dc ((Eg (by omega)).1 (yg n.log2)) (rI (by omega) (by unfold c6;omega));have hgs:mS s a (c6 n)=n:=by
   rw[ON λ j hj=>?_,rH hlt];rw[rG];exact hg (1+j) _ (by rw[e,ye 1 j,dU];exact P4 n hj)
  rw[h0,aq (by omega),show 247+c6 n-247=c6 n by omega,aq (by omega),hgs,aC (by unfold kz;rw[aq h248]),el,rG]
def jh(i:Nat)(a:cK):List UInt8:=a.byte::(cZ a.out++cZ (i-a.to))
def pD(s:ay):List UInt8:=if s.fin then cZ (2*Z s.arcs+1)++cZ s.out else cZ (2*Z s.arcs)
def nU(i:Nat)(s:ay):List UInt8:=pD s++s.arcs.flatMap (jh i)
def iR:Nat->List ay->List UInt8
 |_,[]=>[]
 |i,s::M=>nU i s++iR (i+1) M
theorem TJ:∀(M:List ay) (i:Nat) (s:ay),iR i (M++[s])=iR i M++nU (i+Z M) s
 | [],i,s=>by simp[iR]
 |x::M,i,s=>by
  rw[ij,iR,TJ M (i+1) s,iR,jD,cd,show i+1+Z M=i+(Z M+1) by omega]
def nR(n:Nat)(M:List ay)(k:Nat):List UInt8:=[67,83,1]++(cZ n++(cZ (Z M)++(iR 0 M++cZ k)))
def Lay(M:List ay):Prop:=∀(i:Nat) (s:ay),M[i]?=U s->Z s.arcs<=256/\(s.fin=af->s.out=0)/\s.out<18446744073709551616/\∀a∈s.arcs,a.to<i/\a.out<18446744073709551616
def cD(a:cK):List O:=[bN a.byte.toNat,.int .u64 a.out,.int .i64 a.to]
def gV(A:Mem)(l:List cK)(x:O):Prop:=∃b,ai A 304 3 b (l.map cD) x
variable {A A':Mem}
def gV.kp{l:List cK}{x:O}(h:gV A l x)(k:Kp A A'):gV A' l x:=by
 obtain⟨b,h⟩:=h;exact⟨b,h.same k.1 (k.2 b)⟩
def a_(x:O)(s:ay):List O:=[x,.bool s.fin,.int .u64 s.out]
variable {b:Nat}{ls:List (List O)}
def ai.di{e:aj}{x:O}(h:ai A e n b ls x):x.cells.toList=[x]/\bI x=aa:=by
 rcases h with⟨rfl,-⟩|⟨k,c,rfl,-⟩<;>exact⟨rfl,rfl⟩
def ai.oS{e:aj}{x:O}(h:ai A e n b ls x)(h0:ls=[]->x=.slice Y 0 0)(hn:A.next<=A'.next)(hg:ls≠ []->b<A.next->A'.get b=A.get b):ai A' e n b ls x:=by
 by_cases hl:ls=[]
 .exact .inl ⟨h0 hl,hl⟩
 .exact ai.same h hn (hg hl)
def dJ(A:Mem)(M:List ay)(y:O):Prop:=∃b rows,ai A 239 3 b rows y/\Z rows=Z M/\∀(i:Nat) (s:ay),M[i]?=U s->∃x,rows[i]?=U (a_ x s)/\gV A s.arcs x
variable {M:List ay}{y:O}
def dJ.kp(h:dJ A M y)(k:Kp A A'):dJ A' M y:=by
 obtain⟨b,rows,h1,h2,h3⟩:=h;refine⟨b,rows,h1.same k.1 (k.2 b),h2,λ i s hs=>?_⟩;obtain⟨x,e1,e2⟩:=h3 i s hs;exact⟨x,e1,e2.kp k⟩
def sr(t:T O)(n:Nat):ev t (.func n)=.ok (.func (.func n) ⟨[]⟩ ⟨[]⟩):=rfl
def i3:bk.aB 3=U (.int .i64):=zw
def i4:bk.aB 4=U .bool:=DO
def i5:bk.aB 5=U (.int .u8):=oc
def i9:bk.aB 9=U .string:=oe
def i103:bk.aB 147=U (.int .u64):=tY
def Dx:aY bk 3=.ok 1:=by kernel_rfl
def wH{t:aj}{p:Bool}(h:(bk.aB t).map cW=U p):∃d,bk.aB t=U d/\cW d=p:=by
 cases hq:bk.aB t with
 |none=>rw[hq]at h;cases h
 |some d=>rw[hq]at h;exact⟨d,rfl,by simpa using h⟩
def VB.lp{e t:aj}{v:O}(h:VB A e b (.var 1) [v])(ht:(bk.aB t).map cW=U af):ax bk A.get t (pw b 0)=.ok v:=by
 obtain⟨d,hd,ha⟩:=wH ht;exact h.ld rfl hd ha
def Jf:bM bk 257 (pw b 0) 0=.ok (pw b 0):=by kernel_rfl
def CP:bM bk 257 (pw b 0) 1=.ok (pw b 1):=by kernel_rfl
def pV(b:Nat):O:=pw b 0
def g_(A:Mem)(p:Nat)(s:List UInt8)(a:Nat):Prop:=VB A 257 p (.var 2) [ag s,.int .i64 a]
variable {p:Nat}
def g_.kp{a:Nat}{s:List UInt8}(h:g_ A p s a)(k:Kp A A'):g_ A' p s a:=VB.kp h k
def g_.s{a:Nat}{s:List UInt8}(h:g_ A p s a):ax bk A.get 9 (pw p 0)=.ok (ag s):=h.ld rfl i9 rfl
def g_.a{a:Nat}{s:List UInt8}(h:g_ A p s a):ax bk A.get 3 (pw p 1)=.ok (.int .i64 a):=h.ld rfl i3 rfl
def g_.go{a:Nat}{s:List UInt8}(h:g_ A p s a):∃A',bX bk A 3 (pw p 1) (.int .i64 b)=.ok A'/\g_ A' p s b/\A'.next=A.next/\∀z,z≠p->A'.get z=A.get z:=by
 obtain⟨A',h1,h2,h3,h4⟩:=df (o:=1) (v:=.int .i64 b) Dx h.2 (by simp) rfl rfl;exact⟨A',h1,⟨by have:=h.1;omega,h2⟩,h3,h4⟩
def lV(p:Nat)(A A':Mem):Prop:=A.next<=A'.next/\∀z,z<A.next->z≠p->A'.get z=A.get z
def lV.refl(p:Nat)(A:Mem):lV p A A:=⟨aJ _,λ _ _ _=>rfl⟩
def Kp.x(p:Nat)(h:Kp A A'):lV p A A':=⟨h.1,λ z hz _=>h.2 z hz⟩
variable {B C:Mem}
def lV.trans(h:lV p A B)(k:lV p B C):lV p A C:=⟨dp h.1 k.1,λ z hz hp=>by rw[k.2 z (by have:=h.1;omega) hp,h.2 z hz hp]⟩
def qei{q a:Nat}{s:List UInt8}(h:g_ A p s a)(hq:VB A 255 q (.var 1) [pV p])(hs:Z s<900000)(ha:a<=Z s):az bk 253 [pV q] A (uQ (qd s a)) A:=by
 have l1:ax bk A.get 255 (pw q 0)=.ok (pV p):=hq.lp (by kernel_rfl);have l2:=h.s;have l3:=h.a;have kg:=λ ih=>qa7 (ih:=ih) (A:=A) (show Z s<1000000 by omega) ha
 refine cG 60 (oN Tryz.func253) (by kernel_rfl) λ M=>?_
 simp(disch:=first|decide+kernel|omega|simp only[Wq,V])only[Tryz.f253,Aq,au,reduceIte,V,ak,pV,l1,l2,l3,bW,bV,Jf,CP,kg,uQ,dX,dU,Fq,bY []]<;>rfl
variable {r:Nat}
def qej{q lo hi:Nat}(hq:VB A 147 q (.var 1) [.int .u64 lo])(hr:VB A 147 r (.var 1) [.int .u64 hi])(h:lo<=n/\n<=hi):az bk 255 [.int .u64 n,pV q,pV r] A (iN 0) A:=by
 have l1:=hq.l0 i103 rfl;have l2:=hr.l0 i103 rfl;have e1:¬n<lo:=by omega
 have e2:¬hi<n:=by omega
 refine cG 60 (oN Tryz.func255) (by kernel_rfl) λ M=>?_
 simp(disch:=first|decide+kernel|omega|simp only[Wq,V])only[Tryz.f255,Aq,au,reduceIte,V,ak,pV,l1,l2,fm,fk,e1,e2]<;>rfl
def ze{a lo hi:Nat}{s r:List UInt8}(h:g_ A p s a)(hs:Z s<900000)(hn:n<18446744073709551616)(hd:s.drop a=cZ n++r)(hr:lo<=n/\n<=hi):
 ∃v A',az bk 205 [pV p,.int .u64 lo,.int .u64 hi] A v A'/\v=.int .u64 n/\g_ A' p s (a+(cZ n).length)/\lV p A A':=by
 obtain⟨hg,-,hle⟩:=xh hn hd;have ha:a<=Z s:=by omega
 have kB:=Kp.alloc A (ae 255 [pV p]);have v1:=aK A 255 [pV p];generalize hB:A.alloc (ae 255 [pV p])=B at kB v1;have kC:=Kp.alloc B (ae 147 [.int .u64 lo]);have v2:=aK B 147 [.int .u64 lo];generalize hC:B.alloc (ae 147 [.int .u64 lo])=C at kC v2;have kD:=Kp.alloc C (ae 147 [.int .u64 hi]);have v3:=aK C 147 [.int .u64 hi];generalize hD:C.alloc (ae 147 [.int .u64 hi])=D at kD v3;have v1:=v1.kp (kC.trans kD);have v2:=v2.kp kD;have kAD:=kB.trans (kC.trans kD);have hD':=h.kp kAD;obtain⟨g1,h1⟩:=qei hD' v1 hs ha;obtain⟨g2,h2⟩:=qej v2 v3 hr;rw[hg]at h1;have l1:ax bk D.get 255 (pw A.next 0)=.ok (pV p):=v1.lp (by kernel_rfl);obtain⟨E,sE,rE,nE,fE⟩:=hD'.go (b:=a+(cZ n).length);have h206:az bk 252 [pV p,.func (.func 253) ⟨[]⟩ ⟨[pV A.next]⟩,.func (.func 255) ⟨[]⟩ ⟨[pV B.next,pV C.next]⟩] D (.int .u64 n) E:=by
  simp only[pV,uQ]at*;refine bQ (g1+g2) 60 (oN Tryz.func252) (by kernel_rfl) λ M hM=>?_
  simp(config:={maxSteps:=4000000})(disch:=first|decide+kernel|omega|simp only[Wq,V])only[Tryz.f252,Aq,au,reduceIte,V,ak,h1,h2,dX,dU,bW,bV,CP,sE]<;>rfl
 obtain⟨g3,h3⟩:=h206;refine⟨_,E,?_,rfl,rE,(kAD.x p).trans ⟨by omega,λ z _ hz=>fE z hz⟩⟩;simp only[pV]at*;refine bQ (g3) 60 (oN Tryz.func205) (by kernel_rfl) λ M hM=>?_
 simp(disch:=omega)only[Tryz.f205,Aq,V,pA,hB,hC,hD,l1,h3,fb]<;>rfl
def qeh{q a:Nat}{c:UInt8}{s r:List UInt8}(h:g_ A p s a)(hq:VB A 255 q (.var 1) [pV p])(hs:Z s<900000)(hd:s.drop a=c::r):az bk 251 [pV q] A (.tuple ⟨[bN c.toNat,iN (a+1),iN 0]⟩) A:=by
 have hlt:a<Z s:=by
  rcases d_ a (Z s)with h|h
  .exact h
  .rw[Hf.2 h]at hd;cases hd
 have hc:s.getD a 0=c:=by
  have:s[a]?=U c:=by rw[<-dN a,<-rz,hd];rfl
  rw[ow,this];rfl
 have l1:ax bk A.get 255 (pw q 0)=.ok (pV p):=hq.lp (by kernel_rfl);have l2:=h.s;have l3:=h.a;have hl:=lK (l:=s) i9;have hx:=qX (kd:=.i64) i9 hlt;rw[hc]at hx;have hne:¬a=Z s:=by omega
 have a1:bj .add .i64 ((a:Nat):Int) ((1:Nat):Int)=.ok (iN (a+1)):=fc (cS (by omega));refine cG 60 (oN Tryz.func251) (by kernel_rfl) λ M=>?_
 simp(disch:=first|decide+kernel|omega|simp only[Wq,V])only[Tryz.f251,Aq,au,reduceIte,V,ak,pV,l1,l2,l3,bW,bV,Jf,CP,hl,hx,hne,a1,Fq,bY []]<;>rfl
def Sb{a f:Nat}{y:List O}{c:UInt8}{s r:List UInt8}(h:g_ A p s a)(hs:Z s<900000)(hd:s.drop a=c::r)(hf:∀B,Kp A B->az bk f (bN c.toNat::y) B (iN 0) B):
 ∃v A',az bk 203 [pV p,.func (.func f) ⟨[]⟩ ⟨y⟩] A v A'/\v=bN c.toNat/\g_ A' p s (a+1)/\lV p A A':=by
 have kB:=Kp.alloc A (ae 255 [pV p]);have v1:=aK A 255 [pV p];generalize hB:A.alloc (ae 255 [pV p])=B at kB v1;have hB':=h.kp kB;obtain⟨g1,h1⟩:=qeh hB' v1 hs hd;obtain⟨g2,h2⟩:=hf B kB;have l1:ax bk B.get 255 (pw A.next 0)=.ok (pV p):=v1.lp (by kernel_rfl);obtain⟨E,sE,rE,nE,fE⟩:=hB'.go (b:=a+1);have h204:az bk 250 [pV p,.func (.func 251) ⟨[]⟩ ⟨[pV A.next]⟩,.func (.func f) ⟨[]⟩ ⟨y⟩] B (bN c.toNat) E:=by
  simp only[pV]at*;refine bQ (g1+g2) 60 (oN Tryz.func250) (by kernel_rfl) λ M hM=>?_
  simp(config:={maxSteps:=4000000})(disch:=first|decide+kernel|omega|simp only[Wq,V])only[Tryz.f250,Aq,au,reduceIte,V,ak,h1,h2,dX,dU,bW,bV,CP,sE]<;>rfl
 obtain⟨g3,h3⟩:=h204;refine⟨_,E,?_,rfl,rE,(kB.x p).trans ⟨by omega,λ z _ hz=>fE z hz⟩⟩;simp only[pV]at*;refine bQ (g3) 60 (oN Tryz.func203) (by kernel_rfl) λ M hM=>?_
 simp(disch:=omega)only[Tryz.f203,Aq,V,pA,hB,l1,h3,fb]<;>rfl
def qek{c:UInt8}:az bk 256 [bN c.toNat] A (iN 0) A:=by
 refine cG 60 (oN Tryz.func256) (by kernel_rfl) λ M=>?_
 simp only[Tryz.f256,Aq,V]<;>rfl
variable {i:Nat}
def qef{q:Nat}{c:UInt8}(hq:VB A 3 q (.var 1) [.int .i64 i])(hi:i<3)(hc: [67,83,1][i]?=U c):az bk 204 [bN c.toNat,pV q] A (iN 0) A:=by
 have l1:=hq.l0 i3 rfl;have hx:=qX (kd:=.i64) (l:=[67,83,1]) i9 hi;have e:([67,83,1]:List UInt8).getD i 0=c:=by rw[ow,hc];rfl
 rw[e]at hx;refine cG 60 (oN Tryz.func204) (by kernel_rfl) λ M=>?_
 simp(disch:=decide+kernel)only[Tryz.f204,Aq,V,pV,l1,hx]<;>rfl
end Go.Proofs.YtdobfpkceacneaaGreatDoor.sto
namespace Go.Am
variable {tb:aO}{n:Nat}
def W.to{c:aH}{s:St}{K:Ex->St->Prop}(P:T O->Mem->Prop)(h:W tb c s λ e s'=>e=.nrm/\∃t D,s'=⟨t,n,[],D,Y⟩/\P t D)(k:∀t D,P t D->K .nrm ⟨t,n,[],D,Y⟩):W tb c s K:=h.mono λ e s' hs=>by
 obtain⟨rfl,t,D,rfl,hp⟩:=hs;exact k t D hp
end Go.Am
namespace Go.Proofs.YtdobfpkceacneaaGreatDoor.sto
open Go.Am Go.Sto
def JL:bk.aB 237=U (.slice 304):=by kernel_rfl
def Pv:aY bk 304=.ok 3:=by kernel_rfl
def qa1:eR bk 304=.ok (3,[.int .u8 0,.int .u64 0,.int .i64 0]):=by kernel_rfl
def qa4:cX bk 304=.ok (.agg ⟨[bN 0,uN 0,iN 0]⟩):=by kernel_rfl
def qa3:cX bk 239=.ok (.agg ⟨[.slice Y 0 0,.bool af,uN 0]⟩):=by kernel_rfl
def JN:aY bk 239=.ok 3:=by kernel_rfl
def qaT:aY bk 237=.ok 1:=by kernel_rfl
def JK:aY bk 147=.ok 1:=by kernel_rfl
def qaU:aY bk 4=.ok 1:=by kernel_rfl
variable {b o:Nat}
def qaB:bM bk 239 (pw b o) 0=.ok (pw b o):=by kernel_rfl
def FJ:bM bk 239 (pw b o) 1=.ok (pw b (o+1)):=by kernel_rfl
def qaC:bM bk 239 (pw b o) 2=.ok (pw b (o+2)):=by kernel_rfl
def qaD:bM bk 304 (pw b o) 1=.ok (pw b (o+1)):=by kernel_rfl
def qaE:bM bk 304 (pw b o) 2=.ok (pw b (o+2)):=by kernel_rfl
def qat{a:Int}:ef bk 304 [(0,.int .u8 a)]=.ok (.agg ⟨[.int .u8 a,uN 0,iN 0]⟩):=by kernel_rfl
def qaw{a o n:Int}:eo bk 237 1 [(0,.agg ⟨[.int .u8 a,.int .u64 o,.int .i64 n]⟩)]=.ok (ae 304 [.int .u8 a,.int .u64 o,.int .i64 n],.dy 1 2):=by kernel_rfl
def qaZ:∃i,bk.ty.get 304=U i/\0<i.bytes/\i.bytes<=65536:=by
 have h:(bk.ty.get 304).map (λ i=>aM 0 i.bytes&&au i.bytes 65536)=U aa:=by kernel_rfl
 cases hq:bk.ty.get 304 with
 |none=>rw[hq]at h;cases h
 |some i=>
  rw[hq]at h;simp only[fZ,eM,dz,bT]at h;exact⟨i,rfl,h.1,fQ h.2⟩
def Vm(a:cK):∀v∈cD a,bI v=aa:=by
 intro v hv;simp only[cD,cC,en,or_false]at hv;rcases hv with rfl|rfl|rfl<;>rfl
variable {c:Nat}{y:O}
def qas{D:Mem}{l:List cK}{a:cK}(h:ai D 304 3 c (l.map cD) y)(hl:Z l<1000000):
 ∃y' D',dm bk (D.alloc (ae 304 (cD a))) 237 237 y (.slice (U ⟨D.next,0,Y⟩) 1 2)=.ok (y',D')/\ai D' 304 3 (D.next+1) ((l++[a]).map cD) y'/\D'.next=D.next+2/\∀z,(z=c->y=.slice Y 0 0)->z<D.next->D'.get z=D.get z:=by
 obtain⟨i,t1,t2,t3⟩:=qaZ;have h':ai (D.alloc (ae 304 (cD a))) 304 3 c (l.map cD) y:=h.same (by rw[aA];omega) λ hh=>c9 (by omega)
 obtain⟨x',D',h1,h2,h3,h4⟩:=ai.append h' JL JL qa1 t1 t2 t3 (by omega) (by omega) (by rw[aR];omega) (cR D _) rfl (Vm a);rw[aA]at h2 h3 h4;exact⟨x',D',h1,by rw[fY];exact h2,by omega,λ z hz hzn=>by rw[h4 z hz (by omega),c9 (by omega)]⟩
variable {A:Mem}{n:Nat}{ls:List (List O)}
def vn{e:aj}{x:O}(h:ai A e n b ls x)(h0:ls≠ []):b<A.next:=by
 rcases h with⟨-,h⟩|⟨_,_,_,h,_⟩
 .exact aZ h h0
 .exact h
def kW:=cg pY
def EJ:aH:=sub kW [1,1,1,0,1,0,0]
def Xm:pY.body=U (.seq (sub kW [0]) (.seq (sub kW [1,0]) (.seq (.seq (sub kW [1,1,0,0]) (sub kW [1,1,0,1])) (.seq (.seq (sub kW [1,1,1,0,0]) (.block 0 (.loop EJ))) (.seq (sub kW [1,1,1,1,0]) (sub kW [1,1,1,1,1])))))):=by kernel_rfl
def Er(p q i:Nat)(st:ay)(s r:List UInt8)(k:Nat)(D:Mem):Prop:=∃a c x,g_ D p s a/\s.drop a=(st.arcs.drop k).flatMap (jh i)++r/\a+((st.arcs.drop k).flatMap (jh i)).length+Z r=Z s/\VB D 239 q (.var 3) (a_ x ⟨st.fin,st.out,[]⟩)/\
 ai D 304 3 c ((st.arcs.take k).map cD) x/\(k=0->x=.slice Y 0 0)/\(k≠0->q<c)
variable {w:List UInt8}
def Vs{s r:List UInt8}{a:Nat}(h:s.drop a=w++r)(hw:a<=Z s):a+Z w+Z r=Z s:=by
 have:=cV Z h;rw[qx,aU]at this;omega
variable {p i k:Nat}{t:T O}
def Vo{q:Nat}{st:ay}{s r:List UInt8}{D:Mem}(hs:Z s<900000)(hpq:p<q)(hi:i<1000000)(hl:Z st.arcs<=256)(ha:∀x∈st.arcs,x.to<i/\x.out<18446744073709551616)(hk:k<Z st.arcs)(h:Er p q i st s r k D)
 (hsl:Sl t [(0,pV p),(1,.int .u64 i),(4,pV q),(19,uN (Z st.arcs)),(20,.int .u64 k)]):
 W bk EJ ⟨t,43,[],D,Y⟩ λ e s'=>e=.nrm/\∃t' D',s'=⟨t',43,[],D',Y⟩/\Er p q i st s r (k+1) D'/\(D.next<=D'.next/\∀z,z<q->z≠p->D'.get z=D.get z)/\Sl t' [(0,pV p),(1,.int .u64 i),(4,pV q),(19,uN (Z st.arcs)),(20,uN (k+1))]:=by
 obtain⟨a,c,x,hR,hd,hae,hV,hS,hx0,hc⟩:=h;obtain⟨g0,g1,g4,g19,g20,-⟩:=hsl;have hmem:=ik hk;obtain⟨ht,ho⟩:=ha _ hmem;have hdk:=nb hk;rw[hdk,j']at hd hae;have htk:=eH hk;generalize st.arcs[k]=ar at*;generalize hw:(st.arcs.drop (k+1)).flatMap (jh i)=w at*;have hcD:k≠0->c<D.next:=λ h0=>vn hS (by
  intro hn;have:=cV Z hn;rw[aR,db,dL]at this;omega)
 have hd1:s.drop a=ar.byte::(cZ ar.out++(cZ (i-ar.to)++(w++r))):=by rw[hd];simp[jh]
 obtain⟨v1,E1,⟨e1,h1⟩,rfl,R1,K1⟩:=Sb hR hs hd1 λ B _=>qek
 have hd2:s.drop (a+1)=cZ ar.out++(cZ (i-ar.to)++(w++r)):=by rw[<-He,hd1];rfl
 have kF:=Kp.alloc E1 (ae 304 [bN ar.byte.toNat,uN 0,iN 0]);have v2:=aK E1 304 [bN ar.byte.toNat,uN 0,iN 0];have sF:bX bk (E1.alloc (ae 304 [bN 0,uN 0,iN 0])) 304 (pw E1.next 0) (.agg ⟨[bN ar.byte.toNat,uN 0,iN 0]⟩)=.ok (E1.alloc (ae 304 [bN ar.byte.toNat,uN 0,iN 0])):=ep Pv rfl rfl (by simp) (by simp[bI]);have nF:=aA E1 (ae 304 [bN ar.byte.toNat,uN 0,iN 0]);have R2:=R1.kp kF;generalize E1.alloc (ae 304 [bN ar.byte.toNat,uN 0,iN 0])=F at kF v2 sF nF R2;obtain⟨v3,E2,⟨e2,h2⟩,rfl,R3,K2⟩:=ze (hi:=18446744073709551615) R2 hs ho hd2 ⟨a6 _,by omega⟩;obtain⟨-,hd3,-⟩:=xh ho hd2;have hpD:=hR.1;have n1:=K1.1;have n2:=K2.1;obtain⟨G,sG,vG,nG,fG⟩:=df (o:=1) (v:=.int .u64 ar.out) JK (v2.2.same (K2.2 _ (by omega) (by omega))) (by simp) rfl rfl;have R4:g_ G p s (a+1+(cZ ar.out).length):=⟨by rw[nG];exact R3.1,R3.2.same (fG p (by omega))⟩;obtain⟨v4,E3,⟨e3,h3⟩,rfl,R5,K3⟩:=ze (n:=i-ar.to) (lo:=1) (hi:=i) R4 hs (by omega) hd3 ⟨by omega,by omega⟩;obtain⟨-,hd4,hle⟩:=xh (show i-ar.to<18446744073709551616 by omega) hd3;have n3:=K3.1;have su:bj .sub .u64 ((i:Nat):Int) ((i-ar.to:Nat):Int)=.ok (uN ar.to):=by rw[gS (by omega) (iz (by omega)),show i-(i-ar.to)=ar.to by omega]
 have cv:=ia (tb:=bk) (s:=147) (d:=3) (k:=.u64) (n:=ar.to) (by rw[i103];rfl) i3 (cS (by omega));obtain⟨H,sH,vH,nH,fH⟩:=df (tb:=bk) (t:=3) (o:=2) (v:=.int .i64 ar.to) Dx (vG.same (K3.2 _ (by omega) (by omega))) (by simp) rfl rfl;have lw:ax bk H.get 304 (pw E1.next 0)=.ok (.agg ⟨cD ar⟩):=by
  obtain⟨d,hd1,hd2⟩:=wH (by kernel_rfl);exact bU hd1 hd2 Pv vH
 have gF:∀z,z<D.next->z≠p->H.get z=D.get z:=λ z hz hp=>by
  rw[fH z (by omega),K3.2 z (by omega) hp,fG z (by omega),K2.2 z (by omega) hp,kF.2 z (by omega),K1.2 z hz hp]
 have hqD:=hV.1;have VH:=hV.2.same (gF q hqD (by omega));have lx:ax bk H.get 237 (pw q 0)=.ok x:=VB.ld (tb:=bk) ⟨by omega,VH⟩ rfl JL rfl;have SH:ai H 304 3 c ((st.arcs.take k).map cD) x:=ai.oS hS (λ h=>hx0 (by
  have:=cV Z h;rw[aR,db,dL]at this;omega)) (by omega) λ hne hlt=>gF c hlt (by
   have:k≠0:=λ h=>hne (by rw[h];rfl)
   have:=hc this;omega)
 obtain⟨y',J,happ,hs3,hn3,hf3⟩:=qas SH (by rw[db];omega);have happ':dm bk (H.alloc (ae 304 [bN ar.byte.toNat,.int .u64 ar.out,.int .i64 ar.to])) 237 237 x (.slice (U ⟨H.next,0,Y⟩) 1 2)=.ok (y',J):=happ;have hqc:q=c->x=.slice Y 0 0:=λ e=>vW (λ h0:k=0=>hx0 h0) λ h0=>by have:=hc h0;omega
 obtain⟨L,sL,vL,nL,fL⟩:=df (tb:=bk) (t:=237) (o:=0) (v:=y') qaT (VH.same (hf3 q hqc (by omega))) (by simp[a_]) (ai.di hs3).1 (ai.di hs3).2;have RL:g_ L p s (a+1+(cZ ar.out).length+(cZ (i-ar.to)).length):=⟨by have:=R5.1;omega,R5.2.same (by
  have hp5:=R5.1;rw[fL p (by omega),hf3 p (λ e=>vW (λ h0:k=0=>hx0 h0) λ h0=>by have:=hc h0;omega) (by omega),fH p (by omega)])⟩
 have a1:bj .add .u64 ((k:Nat):Int) ((1:Nat):Int)=.ok (uN (k+1)):=fc (iz (by omega));have lk:bj .lss .u64 ((k:Nat):Int) ((Z st.arcs:Nat):Int)=.ok (.bool aa):=by rw[Kl];simp[hk]
 simp only[pV]at*;apply W.ct (e1+e2+e3) 20
 .intro M hM;simp(disch:=first|decide+kernel|omega)only[EJ,kW,pY,Aq,V,sr,g0,g1,g4,g19,g20,lk,h1,qat,qa4,aX,sF,h2,qaD,qaE,sG,h3,su,cv,sH,qaB,lx,lw,cD,qaw,happ',sL,a1];rfl
 refine⟨rfl,_,L,rfl,⟨_,H.next+1,y',RL,by rw[hw];exact hd4,by rw[hw];simp only[jh,cd,aU]at hae;omega,⟨by omega,vL⟩,?_,λ h=>by omega,λ _=>?_⟩,⟨by omega,λ z hz hp=>?_⟩,?_⟩
 .rw[htk];exact hs3.same (by omega) λ h=>fL _ (by omega)
 .omega
 .rw[fL z (by omega),hf3 z (λ e=>vW (λ h0:k=0=>hx0 h0) λ h0=>by have:=hc h0;omega) (by omega),gF z (by omega) hp]
 .simp only[Sq,V,ak,g0,g1,g4,g19]
def JE(st:ay):pD st=cZ (2*Z st.arcs+(if st.fin then 1 else 0))++(if st.fin then cZ st.out else []):=by
 unfold pD;cases st.fin<;>simp
def qge{a:Nat}{s r:List UInt8}{st:ay}(h:g_ A p s a)(hs:Z s<900000)(hi:i<1000000)(hl:Z st.arcs<=256)(hf:st.fin=af->st.out=0)(ho:st.out<18446744073709551616)(ha:∀x∈st.arcs,x.to<i/\x.out<18446744073709551616)(hd:s.drop a=nU i st++r):
 ∃v A',az bk 206 [pV p,.int .u64 i] A v A'/\g_ A' p s (a+(nU i st).length)/\lV p A A'/\∃x c,v=.agg ⟨a_ x st⟩/\ai A' 304 3 c (st.arcs.map cD) x/\(st.arcs=[]->x=.slice Y 0 0)/\(st.arcs≠ []->A.next<c):=by
 refine c_ (oN Tryz.func206) Xm (by kernel_rfl) ?_;have hae:a<=Z s:=by
  rcases d_ (Z s) a with h|h
  .rw[Hf.2 (by omega)]at hd;have:=cV Z hd;have h1:=Kc (2*Z st.arcs+(if st.fin then 1 else 0));unfold nU at this;rw[JE]at this;simp only[dL,aU]at this;omega
  .exact h
 have hend:=Vs hd hae;have kB:=Kp.alloc A (ae 239 [.slice Y 0 0,.bool af,.int .u64 (0:Nat)]);have vB:=aK A 239 [.slice Y 0 0,.bool af,.int .u64 (0:Nat)];apply W.seq;apply W.run 20
 .intro M;simp(disch:=omega)only[kW,pY,Aq,V,qa3,aX];rfl
 have RB:=h.kp kB;generalize A.alloc (ae 239 [.slice Y 0 0,.bool af,.int .u64 (0:Nat)])=B at kB vB RB;have hpA:=h.1;have hd0:s.drop a=cZ (2*Z st.arcs+(if st.fin then 1 else 0))++((if st.fin then cZ st.out else [])++(st.arcs.flatMap (jh i)++r)):=by rw[hd,nU,JE];simp
 have hn:2*Z st.arcs+(if st.fin then 1 else 0)<=513:=by split<;>omega
 obtain⟨v1,C,⟨e1,h1⟩,rfl,R1,K1⟩:=ze RB hs (by omega) hd0 ⟨a6 _,hn⟩;obtain⟨-,hd1,-⟩:=xh (show 2*Z st.arcs+(if st.fin then 1 else 0)<18446744073709551616 by omega) hd0;have hstl:(nU i st).length=(cZ (2*Z st.arcs+(if st.fin then 1 else 0))).length+(if st.fin then cZ st.out else []).length+(st.arcs.flatMap (jh i)).length:=by rw[nU,JE];simp[rG]
 have b1:=vB.1;have k1:=K1.1;have kb:=kB.1;have hrem:bj .rem .u64 ((2*Z st.arcs+(if st.fin then 1 else 0):Nat):Int) ((2:Nat):Int)=.ok (.int .u64 (if st.fin then 1 else 0:Nat)):=by
  have e:(2*Z st.arcs+(if st.fin then 1 else 0)) % 2=(if st.fin then 1 else 0):=by split<;>omega
  rw[Dj (by omega),e]
 have hquo:bj .quo .u64 ((2*Z st.arcs+(if st.fin then 1 else 0):Nat):Int) ((2:Nat):Int)=.ok (.int .u64 (Z st.arcs:Nat)):=by
  rw[Rb (by omega) (by omega)];congr 3;split<;>omega
 generalize hN:2*Z st.arcs+(if st.fin then 1 else 0)=N at*;obtain⟨E,sE,vE,nE,fE⟩:=df (o:=1) (v:=.bool st.fin) qaU (vB.2.same (K1.2 _ b1 (by omega))) (by simp) rfl rfl;have R2:g_ E p s (a+(cZ N).length):=⟨by have:=R1.1;omega,R1.2.same (fE p (by omega))⟩;have lf:ax bk E.get 4 (.pointer (U ⟨A.next,0+1,Y⟩))=.ok (.bool st.fin):=VB.ld ⟨by omega,vE⟩ rfl i4 rfl;have kE:lV p A E:=⟨by omega,λ z hz hp=>by rw[fE z (by omega),K1.2 z (by omega) hp,kB.2 z hz]⟩;apply W.seq;simp only[pV]at*;apply W.ct (e1) 20
 .intro M hM;simp(disch:=omega)only[kW,pY,Aq,V,h1];rfl
 apply W.seq;refine W.to (n:=43) (λ t D=>Er p A.next i st s r 0 D/\lV p A D/\Sl t [(0,pV p),(1,.int .u64 i),(4,pV A.next),(5,.int .u64 N)]) ?_ ?_
 .cases hfin:st.fin with
  |false=>
   rw[hfin]at hrem lf hd1 vE sE;apply W.seq;apply W.run 20
   .intro M;simp(disch:=decide+kernel)only[kW,pY,Aq,V,hrem,FJ,sE];rfl
   apply W.run 20
   .intro M;simp(disch:=omega)only[kW,pY,Aq,V,FJ,lf];rfl
   refine⟨rfl,_,E,rfl,⟨_,A.next,.slice Y 0 0,R2,by simpa using hd1,?_,?_,ai.nil _ _ _ _,λ _=>rfl,λ h=>aZ rfl h⟩,kE,?_⟩
   .rw[hfin]at hstl;simp at hstl;simp;omega
   .refine⟨by omega,?_⟩;rw[hf hfin];simpa[a_,hfin]using vE
   .simp only[Sq,V,ak,pV]
  |true=>
   rw[hfin]at hrem lf hd1 vE sE;have hd1':s.drop (a+(cZ N).length)=cZ st.out++(st.arcs.flatMap (jh i)++r):=by simpa using hd1
   obtain⟨v3,E2,⟨e2,h2⟩,rfl,R3,K2⟩:=ze (lo:=0) (hi:=18446744073709551615) R2 hs ho hd1' ⟨a6 _,by omega⟩;obtain⟨-,hd3,-⟩:=xh ho hd1';have k2:=K2.1;obtain⟨G,sG,vG,nG,fG⟩:=df (tb:=bk) (t:=147) (o:=2) (v:=.int .u64 st.out) JK (vE.same (K2.2 _ (by omega) (by omega))) (by simp) rfl rfl;simp only[pV]at h2;apply W.seq;apply W.run 20
   .intro M;simp(disch:=decide+kernel)only[kW,pY,Aq,V,hrem,FJ,sE];rfl
   apply W.ct (e2) 20
   .intro M hM;simp(disch:=omega)only[kW,pY,Aq,V,FJ,qaC,lf,h2,sG];rfl
   refine⟨rfl,_,G,rfl,⟨_,A.next,.slice Y 0 0,⟨by have:=R3.1;omega,R3.2.same (fG p (by omega))⟩,by simpa using hd3,?_,?_,ai.nil _ _ _ _,λ _=>rfl,λ h=>aZ rfl h⟩,⟨by have:=kE.1;omega,λ z hz hp=>by rw[fG z (by omega),K2.2 z (by have:=kE.1;omega) hp,kE.2 z hz hp]⟩,?_⟩
   .rw[hfin]at hstl;simp at hstl;simp;omega
   .exact⟨by omega,by simpa[a_,hfin]using vG⟩
   .simp only[Sq,V,ak,pV]
 .rintro t D ⟨hR,hK,hs0⟩;obtain⟨g0,g1,g4,g5,-⟩:=hs0;apply W.seq;apply W.seq;apply W.run 20
  .intro M;simp(disch:=decide+kernel)only[kW,pY,Aq,V,g5,hquo];rfl
  apply W.block;refine W.up (Z st.arcs) (λ k t D=>Er p A.next i st s r k D/\lV p A D/\Sl t [(0,pV p),(1,.int .u64 i),(4,pV A.next),(19,.int .u64 (Z st.arcs:Nat)),(20,.int .u64 k)]) ?_ (a6 _) ⟨hR,hK,?_⟩
  .rintro k t D hk ⟨hR,hK,hs0⟩;by_cases hlt:k<Z st.arcs
   .refine(Vo hs hpA hi hl ha hlt hR hs0).mono ?_;rintro e s' ⟨rfl,t',D',rfl,hR',hk',hs'⟩;exact⟨hlt,t',D',rfl,hR',⟨dp hK.1 hk'.1,λ z hz hp=>by rw[hk'.2 z hz hp,hK.2 z hz hp]⟩,hs'⟩
   .have e:k=Z st.arcs:=by omega
    subst e;obtain⟨a',c,x,q1,q2,q3,q4,q5,q6,q7⟩:=hR;obtain⟨g0,g1,g4,g19,g20,-⟩:=hs0;rw[xZ,List.flatMap_nil]at q2 q3;rw[dY]at q5;have lw:ax bk D.get 239 (.pointer (U ⟨A.next,0,Y⟩))=.ok (.agg ⟨a_ x st⟩):=by
     obtain⟨d,hd1,hd2⟩:=wH (by kernel_rfl);exact bU hd1 hd2 JN q4.2
    obtain⟨G,sG,vG,nG,fG⟩:=ja (tb:=bk) (t:=239) (l':=a_ x st) (by exact JN) q4.2 rfl (by simp[a_]) (by
     intro v hv;simp only[a_,cC,en,or_false]at hv;rcases hv with rfl|rfl|rfl
     .exact(ai.di q5).2
     .rfl
     .rfl)
    have lG:ax bk G.get 239 (.pointer (U ⟨A.next,0,Y⟩))=.ok (.agg ⟨a_ x st⟩):=by
     obtain⟨d,hd1,hd2⟩:=wH (t:=239) (p:=aa) (by kernel_rfl);exact bU hd1 hd2 JN vG
    simp only[pV]at g4;apply W.run 20
    .intro M;simp(disch:=first|decide+kernel|omega)only[EJ,kW,pY,Aq,V,g19,g20];rfl
    show W bk _ _ _;apply W.seq;apply W.run 20
    .intro M;simp(disch:=first|decide+kernel|omega)only[kW,pY,Aq,V,g4,lw,sG];rfl
    apply W.run 20
    .intro M;simp only[kW,pY,Aq,V];rfl
    refine⟨by simp,rfl,_,(by simp only[pY,Aq,V,g4,lG]<;>rfl),⟨by have:=q1.1;show _<G.next;omega,?_⟩,⟨by have:=hK.1;show _<=G.next;omega,λ z hz hp=>by rw[fG z (by omega),hK.2 z hz hp]⟩,x,c,rfl,?_,λ h=>q6 (by rw[h];rfl),λ h=>q7 (λ e=>h (eQ.1 e))⟩
    .have e:a+(nU i st).length=a':=by simp at q3;omega
     rw[e];exact q1.2.same (fG p (by omega))
    .exact ai.oS q5 (λ h=>q6 (by have:=cV Z h;simpa using this)) (by show _<=G.next;omega) λ hne _=>fG c (by
      have:=q7 (λ e=>hne (mH.2 (eQ.1 e)));omega)
  .simp only[Sq,V,ak,g0,g1,g4]
end Go.Proofs.YtdobfpkceacneaaGreatDoor.sto
namespace Go.Proofs.YtdobfpkceacneaaGreatDoor.sto
open Go.Am Go.Mdl Go.Sto Go.Shelf
def FL:bk.aB 146=U (.slice 239):=by kernel_rfl
def qa0:eR bk 239=.ok (3,[.slice Y 0 0,.bool af,.int .u64 0]):=by kernel_rfl
def qaR:aY bk 146=.ok 1:=by kernel_rfl
def xq:aY bk 149=.ok 2:=by kernel_rfl
def Pw:cX bk 149=.ok (.agg ⟨[.slice Y 0 0,uN 0]⟩):=by kernel_rfl
def Px:cX bk 3=.ok (iN 0):=by kernel_rfl
variable {b o:Nat}
def qay:bM bk 149 (pw b o) 0=.ok (pw b o):=by kernel_rfl
def qaz:bM bk 149 (pw b o) 1=.ok (pw b (o+1)):=by kernel_rfl
def qav{x:O}{s:ay}:eo bk 146 1 [(0,.agg ⟨a_ x s⟩)]=.ok (ae 239 (a_ x s),.dy 1 2):=by kernel_rfl
def qaY:∃i,bk.ty.get 239=U i/\0<i.bytes/\i.bytes<=65536:=by
 have h:(bk.ty.get 239).map (λ i=>aM 0 i.bytes&&au i.bytes 65536)=U aa:=by kernel_rfl
 cases hq:bk.ty.get 239 with
 |none=>rw[hq]at h;cases h
 |some i=>
  rw[hq]at h;simp only[fZ,eM,dz,bT]at h;exact⟨i,rfl,h.1,fQ h.2⟩
def jl:=cg o_
def H':aH:=sub jl [1,0,1,0,0]
def ED:aH:=sub jl [1,1,1,0,1,0,0]
def W7:o_.body=U (.seq (sub jl [0]) (.seq (.seq (sub jl [1,0,0]) (.block 0 (.loop H'))) (.seq (sub jl [1,1,0]) (.seq (.seq (sub jl [1,1,1,0,0]) (.block 2 (.loop ED))) (.seq (sub jl [1,1,1,1,0]) (.seq (sub jl [1,1,1,1,1,0]) (.seq (sub jl [1,1,1,1,1,1,0]) (sub jl [1,1,1,1,1,1,1])))))))):=by kernel_rfl
def HD(p q:Nat)(M:List ay)(s r:List UInt8)(k:Nat)(D:Mem):Prop:=∃a b rows y,g_ D p s a/\s.drop a=iR k (M.drop k)++r/\VB D 149 q (.var 2) [y,uN 0]/\
 ai D 239 3 b rows y/\Z rows=k/\(k=0->y=.slice Y 0 0)/\(k≠0->q<b)/\
 ∀(i:Nat) (st:ay),i<k->M[i]?=U st->∃x c,rows[i]?=U (a_ x st)/\ai D 304 3 c (st.arcs.map cD) x/\(st.arcs=[]->x=.slice Y 0 0)/\(st.arcs≠ []->q<c/\c≠b)
variable {p k:Nat}{M:List ay}{t:T O}
def qhK{q:Nat}{s r:List UInt8}{D:Mem}{x2:O}(hs:Z s<900000)(hpq:p<q)(hL:Lay M)(hM:Z M<1000000)(hk:k<Z M)(h:HD p q M s r k D)
 (hsl:Sl t [(0,pV p),(2,x2),(3,pV q),(5,.int .u64 k),(6,uN (Z M))]):
 W bk ED ⟨t,52,[],D,Y⟩ λ e s'=>e=.nrm/\∃t' D',s'=⟨t',52,[],D',Y⟩/\HD p q M s r (k+1) D'/\(D.next<=D'.next/\∀z,z<q->z≠p->D'.get z=D.get z)/\Sl t' [(0,pV p),(2,x2),(3,pV q),(5,uN (k+1)),(6,uN (Z M))]:=by
 obtain⟨a,b,rows,y,hR,hd,hV,hS,hrl,hy0,hb,hA⟩:=h;obtain⟨g0,g2,g3,g5,g6,-⟩:=hsl;have hMk:=aV hk;obtain⟨l1,l2,l3,l4⟩:=hL k _ hMk;have hdk:=nb hk;rw[hdk,iR,jD]at hd;generalize hst:M[k]=st at*;have hpD:=hR.1;have hqD:=hV.1;obtain⟨v1,E,⟨e1,h1⟩,hRE,hKE,x,c,rfl,hc1,hc2,hc3⟩:=qge hR hs (by omega) l1 l2 l3 l4 hd;have hdE:s.drop (a+(nU k st).length)=iR (k+1) (M.drop (k+1))++r:=by rw[<-He,hd,List.drop_left]
 have kE:=hKE.1;have hVE:=hV.2.same (hKE.2 q hqD (by omega));have ly1:=hV.l0 FL rfl;have ly2:ax bk E.get 146 (pw q 0)=.ok y:=VB.ld ⟨by omega,hVE⟩ rfl FL rfl;have sy:cP 100 y y=aa:=by
  rcases hS with⟨rfl,-⟩|⟨_,_,rfl,-⟩
  .rfl
  .exact AX _ _ _ _
 have hr0:k≠0->rows≠ []:=λ h0 h=>h0 (by rw[<-hrl,h];rfl)
 have hbD:k≠0->b<D.next:=λ h0=>vn hS (hr0 h0)
 have hSE:ai E 239 3 b rows y:=ai.oS hS (λ h=>hy0 (by rw[<-hrl,h];rfl)) kE λ hne hlt=>hKE.2 b hlt (by
  have:=hb (λ h=>hne (eQ.1 (by rw[hrl,h])));omega)
 obtain⟨ti,t1,t2,t3⟩:=qaY;have hcell:∀v∈a_ x st,bI v=aa:=by
  intro v hv;simp only[a_,cC,en,or_false]at hv;rcases hv with rfl|rfl|rfl
  .exact(ai.di hc1).2
  .rfl
  .rfl
 have hSE':ai (E.alloc (ae 239 (a_ x st))) 239 3 b rows y:=hSE.same (by rw[aA];omega) λ h=>c9 (by omega)
 obtain⟨y',F,happ,hs3,hn3,hf3⟩:=ai.append hSE' FL FL qa0 t1 t2 t3 (by omega) (by omega) (by omega) (cR E _) rfl hcell;rw[aA]at hs3 hn3 hf3;have hq0:q=b->y=.slice Y 0 0:=λ e=>vW (λ h0:k=0=>hy0 h0) λ h0=>by have:=hb h0;omega
 have hp0:p=b->y=.slice Y 0 0:=λ e=>vW (λ h0:k=0=>hy0 h0) λ h0=>by have:=hb h0;omega
 have keepF:∀z,z<E.next->(z=b->y=.slice Y 0 0)->F.get z=E.get z:=λ z hz h=>by rw[hf3 z h (by omega),c9 (by omega)]
 obtain⟨G,sG,vG,nG,fG⟩:=df (o:=0) (v:=y') qaR (hVE.same (keepF q (by omega) hq0)) (by simp) (ai.di hs3).1 (ai.di hs3).2;have a1:bj .add .u64 ((k:Nat):Int) ((1:Nat):Int)=.ok (uN (k+1)):=fc (iz (by omega));have hkeep:∀z,z<E.next->(z=b->y=.slice Y 0 0)->z≠q->G.get z=E.get z:=λ z hz h hq=>by rw[fG z hq,keepF z hz h]
 simp only[pV]at*;apply W.ct (e1) 20
 .intro M hM;simp(disch:=first|decide+kernel|omega|simp only[Wq,V])only[ED,jl,o_,Aq,au,reduceIte,V,ak,g0,g3,g5,g6,hk,qay,ly1,ly2,h1,qav,happ,sG,sy,a1,Fq,bY [(1,4)]];rfl
 refine⟨rfl,_,G,rfl,⟨_,E.next+1,rows++[a_ x st],y',⟨by have:=hRE.1;omega,hRE.2.same (hkeep p (by omega) hp0 (by omega))⟩,hdE,⟨by omega,vG⟩,hs3.same (by omega) λ h=>fG _ (by omega),by rw[aU,hrl];rfl,λ h=>by omega,λ _=>by omega,λ i u hi hu=>?_⟩,⟨by omega,λ z hz hp=>?_⟩,?_⟩
 .rcases d_ i k with hik|hik
  .obtain⟨x',c',e1,e2,e3,e4⟩:=hA i u hik hu;refine⟨x',c',by rw[eG (by omega)];exact e1,ai.oS e2 (λ h=>e3 (mH.1 h)) (by omega) λ hne hlt=>?_,e3,λ h=>⟨(e4 h).1,?_⟩⟩
   .have:=e4 (λ h=>hne (by rw[h];rfl));rw[hkeep c' (by omega) (λ e=>aZ e this.2) (by omega),hKE.2 c' hlt (by omega)]
   .have:=vn e2 (λ e=>h (mH.1 e));omega
  .have e:i=k:=by omega
   subst e;rw[hMk]at hu;cases hu;refine⟨x,c,by rw[ez (by omega),hrl,gZ];rfl,ai.oS hc1 (λ h=>hc2 (mH.1 h)) (by omega) λ hne hlt=>?_,hc2,λ h=>⟨?_,?_⟩⟩
   .have h4:=hc3 (λ h=>hne (by rw[h];rfl));exact hkeep c hlt (λ e=>vW (λ h0:i=0=>hy0 h0) λ h0=>by have:=hbD h0;omega) (by omega)
   .have:=hc3 h;omega
   .have:=vn hc1 (λ e=>h (mH.1 e));omega
 .rw[hkeep z (by omega) (λ e=>vW (λ h0:k=0=>hy0 h0) λ h0=>by have:=hb h0;omega) (by omega),hKE.2 z (by omega) hp]
 .simp only[Sq,V,ak,g0,g2,g3,g6]
def HF(q:Nat)(A:Mem)(M:List ay)(y:O):Prop:=∃b rows,ai A 239 3 b rows y/\Z rows=Z M/\q<b/\∀(i:Nat) (s:ay),M[i]?=U s->∃x c,rows[i]?=U (a_ x s)/\ai A 304 3 c (s.arcs.map cD) x/\(s.arcs=[]->x=.slice Y 0 0)/\(s.arcs≠ []->q<c)
variable {A A':Mem}{y:O}
def HF.qh7{q:Nat}(h:HF q A M y)(hn:A.next<=A'.next)(hg:∀z,z<A.next->q<z->A'.get z=A.get z):dJ A' M y:=by
 obtain⟨b,rows,h1,h2,h3,h4⟩:=h;refine⟨b,rows,h1.same hn λ hlt=>hg b hlt h3,h2,λ i s hs=>?_⟩;obtain⟨x,c,e1,e2,e3,e4⟩:=h4 i s hs;exact⟨x,e1,c,ai.oS e2 (λ h=>e3 (mH.1 h)) hn λ hne hlt=>hg c hlt (e4 λ h=>hne (by rw[h];rfl))⟩
variable {n:Nat}
def qeB{s:List UInt8}(h:g_ A p s 0)(hs:Z s<900000)(hd:s=nR n M k)(hn:n<=100000)(hM0:M≠ [])(hM:Z M<1000000)(hL:Lay M)(hk:k<18446744073709551616):
 ∃v A',az bk 157 [pV p] A v A'/\lV p A A'/\∃y,v=.tuple ⟨[.int .i64 n,.agg ⟨[y,.int .u64 k]⟩]⟩/\HF A.next A' M y:=by
 refine c_ (oN Tryz.func157) W7 (by kernel_rfl) ?_;have kB:=Kp.alloc A (ae 149 [.slice Y 0 0,uN 0]);have vB:=aK A 149 [.slice Y 0 0,uN 0];have hpA:=h.1;apply W.seq;apply W.run 20
 .intro M;simp(disch:=omega)only[jl,o_,Aq,V,Pw,aX];rfl
 have RB:=h.kp kB;generalize A.alloc (ae 149 [.slice Y 0 0,uN 0])=B at kB vB RB;have hqB:=vB.1;apply W.seq;apply W.seq;apply W.run 20
 .intro M;simp(disch:=omega)only[jl,o_,Aq,V];rfl
 apply W.block;refine W.up 3 (λ i t D=>g_ D p s i/\lV p B D/\Sl t [(0,pV p),(2,iN 0),(3,pV A.next),(7,.int .i64 i)]) ?_ (a6 _) ⟨RB,lV.refl _ _,?_⟩
 .rintro i t D hi ⟨hR,hK,g0,g2,g3,g7,-⟩;by_cases hlt:i<3
  .have sD:bX bk (D.alloc (ae 3 [iN 0])) 3 (pw D.next 0) (.int .i64 i)=.ok (D.alloc (ae 3 [.int .i64 i])):=sS Dx rfl rfl (by simp);have kE:=Kp.alloc D (ae 3 [.int .i64 i]);have vE:=aK D 3 [.int .i64 i];have RE:=hR.kp kE;generalize D.alloc (ae 3 [.int .i64 i])=E at sD kE vE RE;obtain⟨c,r,hc,hdr⟩:∃c r,([67,83,1]:List UInt8)[i]?=U c/\s.drop i=c::r:=by
    rw[hd];have:i=0\/i=1\/i=2:=by omega
    rcases this with rfl|rfl|rfl<;>exact⟨_,_,rfl,rfl⟩
   obtain⟨v1,F,⟨e1,h1⟩,rfl,R1,K1⟩:=Sb RE hs hdr λ B hB=>qef (vE.kp hB) hlt hc
   have a1:bj .add .i64 ((i:Nat):Int) ((1:Nat):Int)=.ok (iN (i+1)):=fc (cS (by omega));simp only[pV]at*;apply W.ct (e1) 20
   .intro M hM;simp(disch:=first|decide+kernel|omega)only[H',jl,o_,Aq,V,g0,g7,hlt,Px,sD,fb,h1,a1];rfl
   refine⟨hlt,_,F,rfl,R1,hK.trans ((kE.x p).trans K1),?_⟩;simp only[Sq,V,ak,g0,g2,g3]
  .have e:i=3:=by omega
   subst e;have hd3:s.drop 3=cZ n++(cZ (Z M)++(iR 0 M++cZ k)):=by rw[hd];rfl
   have hqD:A.next<D.next:=by have:=hK.1;omega
   have VD:VB D 149 A.next (.var 2) [.slice Y 0 0,uN 0]:=⟨hqD,vB.2.same (hK.2 _ hqB (by omega))⟩
   obtain⟨v1,E1,⟨e1,h1⟩,rfl,R1,K1⟩:=ze hR hs (by omega) hd3 ⟨a6 _,hn⟩;obtain⟨-,hd4,-⟩:=xh (show n<18446744073709551616 by omega) hd3;obtain⟨v2,E2,⟨e2,h2⟩,rfl,R2,K2⟩:=ze (lo:=1) (hi:=18446744073709551615) R1 hs (by omega) hd4 ⟨iG.2 hM0,by omega⟩;obtain⟨-,hd5,-⟩:=xh (show Z M<18446744073709551616 by omega) hd4;have cv:=ia (tb:=bk) (s:=147) (d:=3) (k:=.u64) (n:=n) (by rw[i103];rfl) i3 (cS (by omega));have K12:=K1.trans K2;have n12:=K12.1;have V2:VB E2 149 A.next (.var 2) [.slice Y 0 0,uN 0]:=⟨by omega,VD.2.same (K12.2 _ hqD (by omega))⟩
   simp only[pV]at*;apply W.run 20
   .intro M;simp(disch:=decide+kernel)only[H',jl,o_,Aq,V,g7];rfl
   apply W.seq;apply W.ct (e1) 20
   .intro M hM;simp(disch:=first|decide+kernel|omega)only[jl,o_,Aq,V,g0,h1,cv];rfl
   apply W.seq;apply W.seq;apply W.ct (e2) 20
   .intro M hM;simp(disch:=omega)only[jl,o_,Aq,V,g0,h2];rfl
   apply W.block;refine W.up (Z M) (λ j t D=>HD p A.next M s (cZ k) j D/\lV p A D/\Sl t [(0,pV p),(2,.int .i64 n),(3,pV A.next),(5,.int .u64 j),(6,uN (Z M))]) ?_ (a6 _) ⟨⟨_,A.next,[],_,R2,by rw[vZ];exact hd5,V2,ai.nil _ _ _ _,rfl,λ _=>rfl,λ h=>aZ rfl h,λ i st hi=>aZ hi (BK _)⟩,(kB.x p).trans (hK.trans K12),?_⟩
   .rintro j t D hj ⟨hR,hK,hs0⟩;by_cases hlt:j<Z M
    .refine(qhK hs hpA hL hM hlt hR hs0).mono ?_;rintro e s' ⟨rfl,t',D',rfl,hR',hk',hs'⟩;exact⟨hlt,t',D',rfl,hR',⟨dp hK.1 hk'.1,λ z hz hp=>by rw[hk'.2 z hz hp,hK.2 z hz hp]⟩,hs'⟩
    .have e:j=Z M:=by omega
     subst e;obtain⟨a,b,rows,y,q1,q2,q3,q4,q5,q6,q7,q8⟩:=hR;obtain⟨g0,g2,g3,g5,g6,-⟩:=hs0;rw[xZ]at q2;have q2':s.drop a=cZ k++[]:=by rw[kR];exact q2
     obtain⟨v3,E,⟨e3,h3⟩,rfl,R3,K3⟩:=ze (lo:=0) (hi:=18446744073709551615) q1 hs hk q2' ⟨a6 _,by omega⟩;obtain⟨-,hd6,hle⟩:=xh hk q2';have n3:=K3.1;have hM1:Z M≠0:=λ e=>hM0 (eQ.1 e)
     have hqb:=q7 hM1;obtain⟨F,sF,vF,nF,fF⟩:=df (tb:=bk) (t:=147) (o:=1) (v:=.int .u64 k) JK (q3.2.same (K3.2 _ q3.1 (by omega))) (by simp) rfl rfl;have hq3:=q3.1;have RF:g_ F p s (a+(cZ k).length):=⟨by have:=R3.1;omega,R3.2.same (fF p (by omega))⟩;have hend:¬a+(cZ k).length<Z s:=by
      have:=Hf.1 hd6;omega
     have la:=RF.a;have lb:=RF.s;have hl:=lK (tb:=bk) (t:=9) (l:=s) i9;have lw:ax bk F.get 149 (pw A.next 0)=.ok (.agg ⟨[y,.int .u64 k]⟩):=by
      obtain⟨d,hd1,hd2⟩:=wH (by kernel_rfl);exact bU hd1 hd2 xq vF
     have hys:=ai.di q4;obtain⟨G,sG,vG,nG,fG⟩:=ja (tb:=bk) (t:=149) (l':=[y,.int .u64 k]) (by exact xq) vF rfl (by simp) (by
      intro v hv;simp only[cC,en,or_false]at hv;rcases hv with rfl|rfl
      .exact hys.2
      .rfl)
     have lG:ax bk G.get 149 (pw A.next 0)=.ok (.agg ⟨[y,.int .u64 k]⟩):=by
      obtain⟨d,hd1,hd2⟩:=wH (by kernel_rfl);exact bU hd1 hd2 xq vG
     have fG':∀z,z<D.next->z≠p->z≠A.next->G.get z=D.get z:=λ z hz hp hq=>by rw[fG z hq,fF z hq,K3.2 z hz hp]
     simp only[pV]at*;apply W.run 20
     .intro M;simp(disch:=decide+kernel)only[ED,jl,o_,Aq,V,g5,g6];rfl
     apply W.seq;apply W.ct (e3) 20
     .intro M hM;simp(disch:=omega)only[jl,o_,Aq,V,g0,g3,h3,qaz,sF];rfl
     apply W.seq;apply W.run 20
     .intro M;simp(disch:=first|decide+kernel|omega|simp only[Wq,V])only[jl,o_,Aq,au,reduceIte,V,ak,g0,bW,bV,Jf,CP,la,lb,hl,hend,Fq,bY []];rfl
     apply W.seq;apply W.run 20
     .intro M;simp(disch:=first|decide+kernel|omega|simp only[Wq,V])only[jl,o_,Aq,au,reduceIte,V,ak,g2,g3,lw,sG,Fq,bY []];rfl
     apply W.run 20
     .intro M;simp only[jl,o_,Aq,V];rfl
     refine⟨by simp,rfl,_,(by simp only[o_,Aq,V,g2,g3,lG]<;>rfl),⟨by have:=hK.1;show _<=G.next;omega,λ z hz hp=>by rw[fG' z (by have:=hK.1;omega) hp (by omega),hK.2 z hz hp]⟩,y,rfl,b,rows,q4.same (by show _<=G.next;omega) λ hlt=>fG' b hlt (by omega) (by omega),q5,hqb,λ i st hst=>?_⟩;obtain⟨x,c,u1,u2,u3,u4⟩:=q8 i st (bg.1 hst).1 hst;exact⟨x,c,u1,ai.oS u2 (λ h=>u3 (mH.1 h)) (by show _<=G.next;omega) λ hne hlt=>by
      have:=(u4 λ h=>hne (by rw[h];rfl)).1;exact fG' c hlt (by omega) (by omega),u3,λ h=>(u4 h).1⟩
   .simp only[Sq,V,ak,g0,g2,g3,pV]
 .simp only[Sq,V,ak,pV]
end Go.Proofs.YtdobfpkceacneaaGreatDoor.sto
namespace Go.Am
variable {tb:aO}
def DH(h:Nat->List O->Mem->R (O×Mem)):List O->Mem->R (O×Mem):=λ args A=>
 open Classical in if e:∃r N,∀n,N<=n->h n args A=.ok r then .ok e.choose else .no 0
def qie{P:cI}{f:FuncId}{h:Nat->List O->Mem->R (O×Mem)}(hn:∀n,fP P f (h n)):fP P f (DH h):=by
 intro args A v A' e;unfold DH at e;split at e
 .rename_i hx;obtain⟨N,hN⟩:=hx.choose_spec;rw[R.ok.inj e]at hN;exact hn N args A v A' (hN N (aJ _))
 .cases e
variable {A:Mem}
def qid{h:Nat->List O->Mem->R (O×Mem)}{args:List O}{r:O×Mem}{N:Nat}(e:∀n,N<=n->h n args A=.ok r):DH h args A=.ok r:=by
 unfold DH;have hx:∃r N,∀n,N<=n->h n args A=.ok r:=⟨r,N,e⟩;rw[dif_pos hx];obtain⟨N',hN⟩:=hx.choose_spec;have h1:=hN (N+N') (by omega);rw[e _ (by omega)]at h1;rw[R.ok.inj h1]
def U0(e2:Ex)(s2:St)(rv:O)(A1:Mem):Prop:=
 match e2 with
 |.dR v=>s2.d=[]/\rv=v/\A1=s2.m
 |.exit _=>False
 |_=>gU s2.d s2.m=.ok A1/\rv=.nilIface
def YJ{D:zE}{args:List O}{Q:O->Mem->Prop}(hn:Z args<=D.fn.ntmps)
 (h:W tb D.c0 ⟨T.bP .e 0 args,D.fn.ntmps,[],A,Y⟩ λ e s0=>e=.nrm/\∃s1 cap,(∀ih,bB tb ih D.o1 s0 (λ s=>.ok (.nrm,s))=.ok (.nrm,s1))/\s1.d=[]/\s1.t.get D.x=U (.func (.func D.g) ⟨[]⟩ ⟨cap⟩)/\Z cap<=D.gf.ntmps/\
  W tb D.c2 s1 λ e2 s2=>∃rv A1,U0 e2 s2 rv A1/\W tb D.c3 ⟨(T.bP .e 0 cap).set D.t rv,D.gf.ntmps,[],A1,Y⟩ λ e3 s3=>(e3=.nrm\/e3=.ret)/\∃A2 vs,gU s3.d s3.m=.ok A2/\eC tb s2.t A2.get D.fn.results.toList=.ok vs/\Q (oneOf vs) A2):
 ∃v A2,(∃N,∀n,N<=n->yT tb D n args A=.ok (v,A2))/\Q v A2:=by
 obtain⟨e0,s0,⟨f0,h0⟩,he0,s1,cap,h1,hd1,hx,hc,e2,s2,⟨f2,h2⟩,rv,A1,hE,e3,s3,⟨f3,h3⟩,he3,A2,vs,h4,h5,hQ⟩:=h;subst he0;refine⟨_,A2,⟨f0+f2+f3,λ n hN=>?_⟩,hQ⟩;have x0:=h0 (n-f0);have x2:=h2 (n-f2);have x3:=h3 (n-f3);rw[wh (by omega)]at x0 x2 x3;have hrec:Ds tb D n cap rv A1=.ok A2:=by
  unfold Ds;rw[show au (Z cap) D.gf.ntmps=aa by rw[pT];exact hc,aI,x3,R.aT];rcases he3 with rfl|rfl<;>exact h4
 unfold yT;rw[show au (Z args) D.fn.ntmps=aa by rw[pT];exact hn,aI,x0,R.aT];simp only[h1,R.aT,hd1,hx];rw[show aL D.g D.g=aa by rw[pS],aI,x2,R.aT];cases e2 with
 |dR v=>
  obtain⟨q1,rfl,rfl⟩:=hE;simp only[q1,R.aT,lX,hrec,h5]
 |exit _=>exact hE.elim
 |nrm=>
  obtain⟨q1,rfl⟩:=hE;simp only[q1,R.aT,lX,hrec,h5]
 |ret=>
  obtain⟨q1,rfl⟩:=hE;simp only[q1,R.aT,lX,hrec,h5]
section
variable {ih:aH->St->R (Ex×St)}{dst:Option Tmp}{ty:aj}{pos:String}{after:Array Edge}{g:Option (Nat×Bool)}{s:St}{k:St->R (Ex×St)}
def qcW(x:bA)(a t:aj)(b:Bool):bB tb ih {dst,op:=.typeAssert x a t b,type:=ty,pos,after,guard:=g} s k=(ev s.t x).bind λ x=>(Ci tb x t b).bind λ v=>bS s dst v k:=by
 rw[mX (hc:=rfl) (hi:=rfl)];simp only[gT,R.ec]
def AB(tb:aO)(t:aj)(x:O):R O:=match tb.aB t with
 |some (.interface _)=>.no 208
 |some _=>.ok (.iface t x)
 |none=>.no 209
def Df(t:aj)(x:bA):bB tb ih {dst,op:=.makeInterface t x,type:=ty,pos,after,guard:=g} s k=(ev s.t x).bind λ x=>(AB tb t x).bind λ v=>bS s dst v k:=by
 rw[mX (hc:=rfl) (hi:=rfl)];simp only[gT,R.ec];rfl
def w9(t:T O):ev t (.const .nilIface)=.ok .nilIface:=rfl
end
end Go.Am
namespace Go.Proofs.YtdobfpkceacneaaGreatDoor.sto
open Go.Am Go.Sto
def gC:=cg rP
def FC:=cg Tryz.f154
def F4(c:aH)(i:Nat):Oper:=
 match c with
 |.region _ ops _=>ops.toList.getD i default
 |_=>default
noncomputable def qT:zE:={f:=96,fn:=rP,c0:=sub gC [0],id1:=1,o1:=F4 (sub gC [1,0]) 0,od:=F4 (sub gC [1,0]) 1,c2:=sub gC [1,1],x:=7,g:=154,gf:=Tryz.f154,id3:=0,orc:=F4 (sub FC [0]) 0,t:=6,c3:=sub FC [1]}
def oK:G_ bk qT where
 hf:=oN Tryz.func96
 hb:=by kernel_rfl
 hod:=by kernel_rfl
 go1:=by kernel_rfl
 god:=by kernel_rfl
 dod:=by kernel_rfl
 hg:=oN Tryz.func154
 hgb:=by kernel_rfl
 horc:=by kernel_rfl
 dorc:=by kernel_rfl
 gorc:=by kernel_rfl
 ht:=by show Nat.lt _ _;exact fQ (by kernel_rfl)
 hres:=by kernel_rfl
 hng:=by kernel_rfl
def FF:=DH (yT bk qT)
def qah:fP bc.P 96 FF:=qie λ n=>Nu T5 oK n
def XS:qT.c3=sub FC [1]:=rfl
def XQ:qT.c2=.seq (sub gC [1,1,0]) (.seq (sub gC [1,1,1,0]) (.seq (sub gC [1,1,1,1,0]) (.seq (sub gC [1,1,1,1,1,0]) (sub gC [1,1,1,1,1,1])))):=by kernel_rfl
def qa2:cX bk 183=.ok .nilIface:=by kernel_rfl
def qaS:aY bk 183=.ok 1:=by kernel_rfl
def qau{l:List UInt8}:ef bk 257 [(0,ag l)]=.ok (.agg ⟨[ag l,iN 0]⟩):=by kernel_rfl
variable {n:Nat}
def qax{g:Nat->Option Ob}:gP bk g .eql 20 (.tmp n) (.const .nilIface) .nilIface .nilIface=.ok (.bool aa):=by kernel_rfl
structure qjQ (A:Mem) (q:Nat) (v:List O):Prop where
 a:VB A 3 q (.var 1) [v.getD 0 .nilIface]
 b:VB A 149 (q+1) (.var 2) [v.getD 1 .nilIface,v.getD 2 .nilIface]
 c:VB A 183 (q+2) (.var 1) [v.getD 3 .nilIface]
def Yb:Value.nilIface.cells.toList=[.nilIface]:=rfl
variable {A:Mem}{M:List ay}
def qdd{s:List UInt8}{k:Nat}(hs:Z s<900000)(ho:crc.pF s=(nR n M k,aa))(hn:n<=100000)(hM0:M≠ [])(hM:Z M<1000000)(hL:Lay M)(hk:k<18446744073709551616)(hb:(nR n M k).length<900000):
 ∃v A',FF [ag s] A=.ok (v,A')/\Kp A A'/\∃y,v=.tuple ⟨[.int .i64 n,.agg ⟨[y,.int .u64 k]⟩,.nilIface]⟩/\dJ A' M y:=by
 suffices h:∃v A',(∃N,∀n,N<=n->yT bk qT n [ag s] A=.ok (v,A'))/\(Kp A A'/\∃y,v=.tuple ⟨[.int .i64 n,.agg ⟨[y,.int .u64 k]⟩,.nilIface]⟩/\dJ A' M y) by
  obtain⟨v,A',⟨N,hN⟩,h⟩:=h;exact⟨v,A',qid hN,h⟩
 have kB:=Kp.alloc A (ae 3 [iN 0]);have v1:=aK A 3 [iN 0];have nB:=aA A (ae 3 [iN 0]);generalize hB:A.alloc (ae 3 [iN 0])=B at kB v1 nB;have kC:=Kp.alloc B (ae 149 [.slice Y 0 0,uN 0]);have v2:=aK B 149 [.slice Y 0 0,uN 0];have nC:=aA B (ae 149 [.slice Y 0 0,uN 0]);generalize hC:B.alloc (ae 149 [.slice Y 0 0,uN 0])=C at kC v2 nC;have kD:=Kp.alloc C (ae 183 [.nilIface]);have v3:=aK C 183 [.nilIface];have nD:=aA C (ae 183 [.nilIface]);generalize hD:C.alloc (ae 183 [.nilIface])=D at kD v3 nD;have v1:=v1.kp (kC.trans kD);have v2:=v2.kp kD;have kAD:=kB.trans (kC.trans kD);have kE:=Kp.alloc D (ae 257 [ag (nR n M k),iN 0]);have vE:=aK D 257 [ag (nR n M k),iN 0];have nE:=aA D (ae 257 [ag (nR n M k),iN 0]);generalize hE:D.alloc (ae 257 [ag (nR n M k),iN 0])=E at kE vE nE;obtain⟨v,F,⟨g1,h1⟩,hKF,y,rfl,hS⟩:=qeB vE hb rfl hn hM0 hM hL hk;have nF:=hKF.1;have keepF:∀z,z<D.next->F.get z=D.get z:=λ z hz=>by rw[hKF.2 z (by omega) (by omega),kE.2 z hz]
 have hy:y.cells.toList=[y]/\bI y=aa:=by
  obtain⟨b,rows,e,-⟩:=hS;exact ai.di e
 have h1y:∀v∈ [y,Value.int .u64 k],bI v=aa:=by
  intro v hv;simp only[cC,en,or_false]at hv;rcases hv with rfl|rfl
  .exact hy.2
  .rfl
 obtain⟨d,hd1,hd2⟩:=wH (by kernel_rfl);have w1:=v1.1;have w2:=v2.1;have w3:=v3.1;obtain⟨G,sG,vG,nG,fG⟩:=df (o:=0) (v:=.int .i64 n) Dx (v1.2.same (keepF _ w1)) (by simp) rfl rfl;obtain⟨H,sH,vH,nH,fH⟩:=ja (t:=149) (l':=[y,.int .u64 k]) (by exact xq) (v2.2.same (by rw[fG _ (by omega),keepF _ w2])) rfl (by simp) h1y;have l1:ax bk H.get 3 (pw A.next 0)=.ok (.int .i64 n):=c7 i3 rfl (vG.same (fH _ (by omega))) rfl;have l2:=bU hd1 hd2 xq vH;obtain⟨qjV,sI,vI,nI,fI⟩:=df (tb:=bk) (t:=3) (o:=0) (v:=.int .i64 n) Dx (vG.same (fH A.next (by omega))) (by simp) rfl rfl;obtain⟨J,sJ,vJ,nJ,fJ⟩:=ja (by exact xq) (vH.same (fI B.next (by omega))) rfl (by simp) h1y;obtain⟨L,sL,vL,nL,fL⟩:=df (tb:=bk) (t:=183) (o:=0) (v:=.nilIface) qaS (v3.2.same (by rw[fJ _ (by omega),fI _ (by omega),fH _ (by omega),fG _ (by omega),keepF _ w3])) (by simp) rfl rfl;have m1:ax bk L.get 3 (pw A.next 0)=.ok (.int .i64 n):=c7 i3 rfl (vI.same (by rw[fL _ (by omega),fJ _ (by omega)])) rfl;have m2:ax bk L.get 149 (pw B.next 0)=.ok (.agg ⟨[y,.int .u64 k]⟩):=bU hd1 hd2 xq (vJ.same (fL _ (by omega)));have m3:ax bk L.get 183 (pw C.next 0)=.ok .nilIface:=by
  obtain⟨d,hd1,hd2⟩:=wH (by kernel_rfl);exact c7 hd1 hd2 vL rfl
 have hL3:∀z,z<F.next->z≠A.next->z≠B.next->z≠C.next->L.get z=F.get z:=λ z _ a b c=>by rw[fL z c,fJ z b,fI z a,fH z b,fG z a]
 have l2':ax bk qjV.get 149 (pw B.next 0)=.ok (.agg ⟨[y,.int .u64 k]⟩):=bU hd1 hd2 xq (vH.same (fI _ (by omega)));have sv:cP 100 (.agg ⟨[y,.int .u64 k]⟩) (.agg ⟨[y,.int .u64 k]⟩)=aa:=by
  obtain⟨b,rows,e,-⟩:=hS;have h1:cP 99 y y=aa:=by
   rcases e with⟨rfl,-⟩|⟨_,_,rfl,-⟩
   .rfl
   .simp[cP,tU,ri]
  have h2:cP 99 (.int .u64 k) (.int .u64 k)=aa:=by
   show(iA .u64 .u64&&ky (k:Int) (k:Int))=aa;simp[ky,iA]
  show(aL 2 2&&(cP 99 y y&&(cP 99 (.int .u64 k) (.int .u64 k)&&aa)))=aa;rw[h1,h2];rfl
 have ko:=λ ih=>qba (ih:=ih) (A:=D) hs
 rw[ho]at ko;refine YJ (by show 1<=rP.ntmps;rw[Tryz.ntmps96];omega) ?_;apply W.run 20
 .intro M;simp(disch:=omega)only[qT,gC,rP,Aq,V,Px,Pw,qa2,aX,Yb,hB,hC,hD];rfl
 refine⟨rfl,_,[pV A.next,pV B.next,pV C.next],λ ih=>by
  simp only[qT,gC,rP,F4,fb,Aq,V];rfl,by rfl,by
  simp only[T.cq,V,bR,bO,pV];rfl,by
  show 3<=Tryz.f154.ntmps;rw[Tryz.ntmps154];omega,?_⟩
 .show W bk qT.c2 _ _;rw[XQ];apply W.seq;apply W.run 20
  .intro M;simp(disch:=omega)only[gC,rP,Aq,V,ko,dX,dU];rfl
  apply W.seq;apply W.run 20
  .intro M;simp(disch:=omega)only[gC,rP,Aq,V];rfl
  apply W.seq;simp only[pV]at h1;apply W.ct (g1) 20
  .intro M hM;simp(disch:=omega)only[gC,rP,Aq,V,qau,aX,hE,h1,dX,dU,sG,sH];rfl
  apply W.seq;apply W.run 20
  .intro M;simp(disch:=first|decide+kernel|omega|simp only[Wq,V])only[gC,rP,Aq,au,reduceIte,V,ak,l1,l2,sI,l2',sv,sJ,sL,w9,Fq,bY [(1,2)]];rfl
  apply W.run 20
  .intro M;simp only[gC,rP,Aq,V];rfl
  refine⟨.nilIface,L,⟨rfl,rfl⟩,?_⟩;rw[XS];apply W.run 20
  .intro M;simp(disch:=decide+kernel)only[FC,Tryz.f154,Aq,V,qT,w9,eW,qax];rfl
  refine⟨.inl rfl,L,_,rfl,(by simp only[qT,rP,m1,m2,m3,Aq,V]<;>rfl),⟨by omega,λ z hz=>?_⟩,y,rfl,?_⟩
  .rw[hL3 z (by omega) (by omega) (by omega) (by omega),keepF z (by omega),kAD.2 z hz]
  .exact hS.qh7 (by omega) λ z h1 h2=>hL3 z h1 (by omega) (by omega) (by omega)
end Go.Proofs.YtdobfpkceacneaaGreatDoor.sto
namespace Go.Proofs.YtdobfpkceacneaaGreatDoor.sto
open Go.Am Go.Mdl Go.Sto Go.Shelf
def Bn:List O->Option O
 | []=>U (.bool aa)
 |_=>Y
def gi:T (List O->Mem->R (O×Mem)):=(mr.set 96 FF).set 4 (dV Bn)
def I:aO:={bc with hk:=gi}
def Lm(h:fP bc.P 4 (dV Bn)):dP I:=jy (jy T5 qah) h
variable {k:Nat}{fn:Func}
def aN(h:dq.funcs[k]?=U fn):I.fn.get k=U fn:=b_ h
def qe{h:List O->Mem->R (O×Mem)}(e:gi.get k=U h):I.hk.get k=U h:=e
section
variable {ih:aH->St->R (Ex×St)}{A:Mem}
variable {n:Nat}
def qa8(hn:n<18446744073709551616):cH I ih (.fn 181 [.int .u64 n]) A=.ok (.val (.agg ⟨jz n⟩) A):=
 yO (x:=n) (aN Tryz.func181) (by kernel_rfl) Iu (qe (by simp only[gi,mr,T.cq];rfl)) (λ x y h=>by rw[qci h]) hn
variable {w:List UInt8}
def Pz:cH I ih (.fn 140 [ag w]) A=.ok (.val (.bool (decide (0<Z w/\Z w<=64))) A):=
 yO (aN Tryz.func140) (c:=Tryz.f140.body.getD .skip) (by kernel_rfl) (by kernel_rfl) (qe (by simp only[gi,mr,T.cq];rfl)) (λ x y h=>by rw[qcj h]) trivial
def PB{f:Bool}:cH I ih (.fn 219 [.agg ⟨[.int .u64 n,.bool f]⟩]) A=.ok (.val (.bool (f&&decide (n<=4294967296))) A):=
 yO (x:=(n,f)) (aN Tryz.func219) (c:=Tryz.f219.body.getD .skip) (by kernel_rfl) (by kernel_rfl) (qe (by simp only[gi,mr,T.cq];rfl)) (λ x y h=>by rw[qck h]) trivial
variable {e:aD}
def Py:cH I ih (.fn 185 [.agg ⟨aS e⟩]) A=.ok (.val (.agg ⟨aS (bare e)⟩) A):=
 yO (aN Tryz.func185) (c:=Tryz.f185.body.getD .skip) (by kernel_rfl) (by kernel_rfl) (qe (by simp only[gi,mr,T.cq];rfl)) (λ x y h=>by rw[qao h]) trivial
variable {m:Nat}
def FM{f:Bool}(h:n+m<18446744073709551616):cH I ih (.fn 217 [.agg ⟨[.int .u64 n,.bool f]⟩,.int .u64 m]) A=.ok (.val (.agg ⟨[uN (n+m),.bool f]⟩) A):=
 yO (x:=((n,f),m)) (aN Tryz.func217) (c:=Tryz.f217.body.getD .skip) (by kernel_rfl) (by kernel_rfl) (qe (by simp only[gi,mr,T.cq];rfl)) (λ x y h=>by
  obtain⟨⟨a,b⟩,c⟩:=x;obtain⟨⟨a',b'⟩,c'⟩:=y;simp only[HM,ff,Value.agg.injEq,G6,Value.int.injEq,Value.bool.injEq,and_true,true_and]at h;obtain⟨⟨h1,h2⟩,h3⟩:=h;cases zK h1;cases zK h3;rw[h2]) h
def qbc{n:Int}(h:-11<=n/\n<=11):cH I ih (.fn 42 [iN 4,.int .i64 n]) A=.ok (.val (ag (F0 n)) A):=by
 have e:xy names [iN 4,.int .i64 n]=U (ag (F0 n)):=by
  obtain⟨k,hk,rfl⟩:∃k:Nat,k<23/\n=Int.subNatNat k 11:=⟨(n+11).toNat,by omega,by rw[Int.subNatNat_eq_coe];omega⟩;clear h
  iterate 23
   rcases k with _|k
   .clear hk;show _=_;kernel_rfl
  omega
 exact qa (aN Tryz.func42) (by kernel_rfl) (c:=Tryz.f42.body.getD .skip) (by kernel_rfl) (qe (by simp only[gi,mr,T.cq];rfl)) (by unfold dV;rw[e])
def qbe:cH I ih (.fn 42 [iN 2,iN 0]) A=.ok (.val (ag lT) A):=
 qa (aN Tryz.func42) (by kernel_rfl) (c:=Tryz.f42.body.getD .skip) (by kernel_rfl) (qe (by simp only[gi,mr,T.cq];rfl)) (by unfold dV;rfl)
def qa9:cH I ih (.fn 42 [iN 1,iN 0]) A=.ok (.val (ag AL) A):=
 qa (aN Tryz.func42) (by kernel_rfl) (c:=Tryz.f42.body.getD .skip) (by kernel_rfl) (qe (by simp only[gi,mr,T.cq];rfl)) (by unfold dV;rfl)
def PA{s:List UInt8}(hs:Z s<900000):cH I ih (.fn 113 [ag s]) A=.ok (.val (ag (crc.ek s)) A):=
 qa (aN Tryz.func113) (by kernel_rfl) (c:=qI.body.getD .skip) (by kernel_rfl) (qe (by simp only[gi,mr,T.cq];rfl)) (by
  have e:crc.ve [ag s]=U (ag (crc.ek s)):=by rw[<-crc.SY];exact aC hs
  unfold dV;rw[e])
def qa6(hn:n<18446744073709551616):cH I ih (.fn 248 [.int .u64 n,iN 36]) A=.ok (.val (ag (nQ n)) A):=
 yO (x:=n) (aN Tryz.func248) (c:=Tryz.f248.body.getD .skip) (by kernel_rfl) (by kernel_rfl) (qe (by simp only[gi,mr,T.cq];rfl)) (λ x y h=>by
  simp only[HN,ff,Value.int.injEq,and_true,true_and]at h;rw[zK h]) hn
variable {ns:List (List UInt8)}
def qbd{args:List O}(h:tf args A ns):cH I ih (.fn 84 args) A=.ok (.val (pJ ns A).1 (pJ ns A).2):=
 qa (aN Tryz.func84) (by kernel_rfl) (c:=Tryz.f84.body.getD .skip) (by kernel_rfl) (qe (by simp only[gi,mr,T.cq];rfl)) (Z8 h)
def qbf:cH I ih (.fn 4 []) A=.ok (.val (.bool aa) A):=
 qa (aN Tryz.func4) (by kernel_rfl) (c:=Tryz.f4.body.getD .skip) (by kernel_rfl) (qe (by simp only[gi,mr,T.cq];rfl)) rfl
end
def u3:I.aB 3=U (.int .i64):=zw
def u4:I.aB 4=U .bool:=DO
def u5:I.aB 5=U (.int .u8):=oc
def u9:I.aB 9=U .string:=oe
def eE:I.aB 147=U (.int .u64):=tY
def IJ:O->Option Nat
 |.func (.func f) a b=>bif aL f 138 then(match a.toList,b.toList with
  | [],[.pointer (U ⟨bp,o,Y⟩)]=>bif aL o 0 then U bp else Y
  |_,_=>Y)else Y
 |_=>Y
def J3(A:Mem)(bp:Nat):Option Nat:=
 match A.get bp with
 |some (.cells e (.var n) z c)=>bif aM bp A.next&&(aL e 162&&(aL n 1&&aL z 0))then(match c.get 0 with
  |some (.map (U m))=>U m
  |_=>Y)else Y
 |_=>Y
def C5:List MapEntry->Option (List (List UInt8))
 | []=>U []
 |⟨.string s,_,_⟩::es=>match C5 es with
  |some ns=>U (s.data.toList::ns)
  |none=>Y
 |_::_=>Y
def AF(n:List UInt8):List (List UInt8)->List (List UInt8)
 | []=>[n]
 |m::l=>bif decide (n<=m)then n::m::l else m::AF n l
def Gy(ns:List (List UInt8)):List (List UInt8):=ns.foldr AF []
def JA(es:List MapEntry)(k:Nat)(ns:List (List UInt8)):Bool:=
 au k 999&&(au (Z ns) k&&(ns.all (λ n=>aM (Z n) 1000)&&(decide ns.Nodup&&(decide (es.map (·.born)).Nodup&&((es.map (·.born)).all λ b=>aM b k)))))
def Ku(ns:List (List UInt8))(A:Mem):O×Mem:=
 match ns with
 | []=>(.slice Y 0 0,A.alloc .dead)
 |n::r=>(.slice (U ⟨A.next,0,Y⟩) (n::r).length (cu (n::r).length 1),A.alloc (.cells 9 .row 0 (T.bP .e 0 ((Gy (n::r)).map ag))))
def JC:List O->Mem->R (O×Mem):=λ args A=>
 match args with
 | [v]=>match IJ v with
  |some bp=>match J3 A bp with
   |some m=>match A.get m with
    |some (.map es k)=>match C5 es with
     |some ns=>bif JA es k ns then .ok (Ku ns A)else .no 901
     |none=>.no 902
    |_=>.no 903
   |none=>.no 904
  |none=>.no 905
 |_=>.no 906
theorem JJ(n:List UInt8):∀l,(AF n l).Perm (n::l)
 | []=>.refl _
 |m::l=>by
  unfold AF;cases decide (n<=m)with
  |true=>exact .refl _
  |false=>exact((JJ n l).cons m).trans (.swap n m l)
theorem Po(n:List UInt8):∀l:List (List UInt8),l.Pairwise (·<=·)->(AF n l).Pairwise (·<=·)
 | [],_=>List.pairwise_singleton _ _
 |m::l,h=>by
  obtain⟨h1,h2⟩:=wg.1 h;unfold AF;by_cases hd:n<=m
  .rw[decide_eq_true hd];exact wg.2 ⟨λ x hx=>by
    rcases cC.1 hx with rfl|hx
    .exact hd
    .exact List.le_trans hd (h1 x hx),h⟩
  .rw[decide_eq_false hd];refine wg.2 ⟨λ x hx=>?_,Po n l h2⟩;rcases cC.1 ((JJ n l).mem_iff.1 hx)with rfl|hx
   .exact(List.le_total m x).resolve_right hd
   .exact h1 x hx
theorem Lc:∀ns:List (List UInt8),(Gy ns).Perm ns/\(Gy ns).Pairwise (·<=·)
 | []=>⟨.refl _,.nil⟩
 |n::l=>⟨(JJ n _).trans ((Lc l).1.cons n),Po n _ (Lc l).2⟩
def qhC(ns:List (List UInt8)):Gy ns=kP ns:=by
 obtain⟨h1,h2⟩:=Lc ns;unfold kP;rw[<-Go.mergeSort_of_perm h1];exact(List.mergeSort_of_pairwise (h2.imp λ h=>decide_eq_true h)).symm
def qdm(ns:List (List UInt8))(A:Mem):Ku ns A=pJ ns A:=by
 unfold Ku pJ;cases ns with
 |nil=>rfl
 |cons n r=>rw[aq (by simp)];simp only[qhC]
theorem PI:∀{es:List MapEntry} {ns:List (List UInt8)},C5 es=U ns->es.map (·.key)=ns.map ag
 | [],_,h=>by cases h;rfl
 |⟨k,v,b⟩::es,ns,h=>by
  cases k with
  |string s=>
   unfold C5 at h;cases hk:C5 es with
   |none=>rw[hk]at h;cases h
   |some l=>
    rw[hk]at h;cases h;rw[eU,eU,PI hk];rfl
  |_=>cases h
def X_{v:O}{bp:Nat}(h:IJ v=U bp):v=.func (.func 138) ⟨[]⟩ ⟨[.pointer (U ⟨bp,0,Y⟩)]⟩:=by
 unfold IJ at h;split at h
 .rename_i f a b;cases hf:aL f 138 with
  |false=>rw[hf]at h;cases h
  |true=>
   rw[hf]at h;obtain rfl:=dZ hf;obtain⟨a⟩:=a;obtain⟨b⟩:=b;simp only[aI]at h;split at h
   .rename_i b' o;cases ho:aL o 0 with
    |false=>rw[ho]at h;cases h
    |true=>
     rw[ho]at h;obtain rfl:=dZ ho;cases h;rfl
   .cases h
 .cases h
variable {A:Mem}{m:Nat}
def qbZ{bp:Nat}(h:J3 A bp=U m):VB A 162 bp (.var 1) [.map (U m)]:=by
 unfold J3 at h;split at h
 .rename_i e n z c hg;cases hq:(aM bp A.next&&(aL e 162&&(aL n 1&&aL z 0)))with
  |false=>rw[hq]at h;cases h
  |true=>
   rw[hq]at h;simp only[dz,bT]at hq;obtain⟨hb,hq⟩:=hq;obtain rfl:=dZ hq.1;obtain rfl:=dZ hq.2.1;obtain rfl:=dZ hq.2.2;simp only[aI]at h;split at h
   .rename_i m' hc;cases h;refine⟨hb,c,hg,λ i hi=>?_⟩;obtain rfl:i=0:=by simpa using hi
    exact hc
   .cases h
 .cases h
def qai:fP bc.P 84 JC:=Pb λ args A r h=>by
 unfold JC at h;split at h
 .rename_i v;split at h
  .rename_i bp hbp;split at h
   .rename_i m hm;split at h
    .rename_i es k hg;split at h
     .rename_i ns hns;cases hq:JA es k ns with
      |false=>rw[hq]at h;cases h
      |true=>
       rw[hq]at h;unfold JA at hq;simp only[dz,pT,decide_eq_true_eq,ov,bT]at hq;obtain⟨q1,q2,q3,q4,q5,q6⟩:=hq;refine⟨ns,⟨bp,m,es,k,by rw[X_ hbp],qbZ hm,hg,PI hns,by omega,⟨q6,q5⟩,q4,q2,q3⟩,by rw[<-qdm];exact(R.ok.inj h).symm⟩
     .cases h
    .cases h
   .cases h
  .cases h
 .cases h
def GI:aO:=(bc.sM 113 (dV crc.ve)).sM 155 (dV crc.Dl)
def T4:dP GI:=jy (jy rm crc.JF) crc.Pc
def YI:G_ GI qT:=⟨oK.hf,oK.hb,oK.hod,oK.go1,oK.god,oK.dod,oK.hg,oK.hgb,oK.horc,oK.dorc,oK.gorc,oK.ht,oK.hres,oK.hng⟩
def Ln:aO:=(GI.sM 96 (yT GI qT 100000)).sM 84 JC
def qil:dP Ln:=jy (jy T4 (Nu T4 YI 100000)) qai
def qjj:isTrue (call Ln 1000000 4 [] iB)=aa:=by decide+kernel
def qan:fP bc.P 4 (dV Bn):=by
 refine xi qil (b_ Tryz.func4) (c:=Tryz.f4.body.getD .skip) (by kernel_rfl) λ args v hv=>?_
 cases args with
 |cons x l=>cases hv
 |nil=>
  cases hv;have h:=qjj;refine⟨λ x hx=>(en hx).elim,rfl,1000000,?_⟩;cases hr:call Ln 1000000 4 [] iB with
  |no _=>rw[hr]at h;cases h
  |ok r=>
   rw[hr]at h;cases r with
   |dR v A=>cases h
   |val v A=>
    cases v with
    |bool b=>have hb':b=aa:=h;subst hb';exact⟨A,rfl⟩
    |_=>cases h
end Go.Proofs.YtdobfpkceacneaaGreatDoor.sto
namespace Go.Sto
open Go.Am Go.Mdl Go.Sto Go.Shelf
def ph:List (List aD)->Option aD->Option aD
 | [],a=>a
 | []::L,a=>ph L a
 |(e::_)::L,Y=>ph L (U e)
 |(e::_)::L,U b=>ph L (U (if lt e.word b.word then e else b))
def fT(a:Option aD)(x:List aD):Option aD:=match x,a with
 | [],a=>a
 |e::_,Y=>U e
 |e::_,U b=>U (if lt e.word b.word then e else b)
theorem wI(x:List aD):∀(L:List (List aD)) (a:Option aD),ph (L++[x]) a=fT (ph L a) x
 | [],a=>by cases x<;>cases a<;>rfl
 | []::L,a=>wI x L a
 |(e::_)::L,Y=>wI x L (U e)
 |(e::_)::L,U b=>wI x L (U (if lt e.word b.word then e else b))
def jg(w:List UInt8):List aD->List aD
 | []=>[]
 |e::r=>if e.word=w then r else e::r
def eV:Nat->List (List aD)->List aD
 |0,_=>[]
 |f+1,L=>match ph L Y with
  |none=>[]
  |some e=>e::eV f (L.map (jg e.word))
variable {L:List (List aD)}{e:aD}
def qb8{f:Nat}(h:ph L Y=U e):eV (f+1) L=e::eV f (L.map (jg e.word)):=by
 show(match ph L Y with
  |none=>[]
  |some e=>e::eV f (L.map (jg e.word)))=_
 rw[h]
def total(L:List (List aD)):Nat:=(L.map Z).sum
def qb7(f:Nat):∀L,eV f ([]::L)=eV f L:=by
 induction f with
 |zero=>exact λ _=>rfl
 |succ f ih=>
  intro L;show(match ph L Y with
   |none=>[]
   |some e=>e::eV f ([]::L.map (jg e.word)))=match ph L Y with
   |none=>[]
   |some e=>e::eV f (L.map (jg e.word))
  cases ph L Y with
  |none=>rfl
  |some e=>exact cV (e::·) (ih _)
def Me(w:List UInt8)(x:List aD):(jg w x).length<=Z x:=by
 cases x with
 |nil=>exact aJ _
 |cons e r=>
  show(if e.word=w then r else e::r).length<=(e::r).length;split<;>simp
theorem T9(w:List UInt8):∀L,total (L.map (jg w))<=total L
 | []=>aJ _
 |x::L=>by
  have:=T9 w L;have:=Me w x;simp only[total,eU,BD]at*;omega
theorem T'{r:List aD}:∀{L:List (List aD)},e::r∈L->total (L.map (jg e.word))<total L
 |x::L,h=>by
  rcases cC.1 h with rfl|h
  .have:=T9 e.word L;simp only[total,eU,BD,jg,aC,cd]at*;omega
  .have:=T' h;have:=Me e.word x;simp only[total,eU,BD]at*;omega
end Go.Sto
namespace Go.Proofs.YtdobfpkceacneaaGreatDoor.sto
open Go.Am Go.Mdl Go.Sto Go.Shelf
def Bh:I.aB 42=U (.int .u32):=by kernel_rfl
def mB:I.aB 40=U (.slice 44):=by kernel_rfl
def jd:aY I 44=.ok 3:=by kernel_rfl
def FB:(I.aB 44).map cW=U aa:=by kernel_rfl
variable {b o:Nat}
def ny:bM I 44 (pw b o) 0=.ok (pw b o):=by kernel_rfl
def ZD:bM I 44 (pw b o) 1=.ok (pw b (o+1)):=by kernel_rfl
def As:bM I 44 (pw b o) 2=.ok (pw b (o+2)):=by kernel_rfl
def dK(A:Mem)(l:List aD)(x:O):Prop:=∃b,ai A 44 3 b (l.map aS) x
variable {A A':Mem}
def dK.kp{l:List aD}{x:O}(h:dK A l x)(k:Kp A A'):dK A' l x:=by
 obtain⟨b,h⟩:=h;exact⟨b,h.same k.1 (k.2 b)⟩
def dK.len{l:List aD}{x:O}(h:dK A l x):cQ I .len [40] [x]=.ok (iN (Z l)):=by
 obtain⟨b,h⟩:=h;have:=ai.len h mB;rwa[aR]at this
variable {i:Nat}{e:aD}
def dK.at{l:List aD}{x:O}(h:dK A l x)(hi:l[i]?=U e):
 ∃p,dQ I 40 x (.int .i64 i)=.ok p/\ax I A.get 44 p=.ok (.agg ⟨aS e⟩)/\∃q,bM I 44 p 0=.ok q/\ax I A.get 9 q=.ok (ag e.word):=by
 obtain⟨b,h⟩:=h;have hl:i<(l.map aS).length:=by rw[aR];exact(bg.1 hi).1
 have hm:(l.map aS)[i]?=U (aS e):=by rw[da,hi];rfl
 have hd:∃d,I.aB 44=U d/\cW d=aa:=by
  have:=FB;cases hq:I.aB 44 with
  |none=>rw[hq]at this;cases this
  |some d=>rw[hq]at this;exact⟨d,rfl,by simpa using this⟩
 obtain⟨d,hd1,hd2⟩:=hd;refine⟨_,ai.idx h mB jd hl,ai.bU h hd1 hd2 jd hm,_,ny,?_⟩;have:=ai.load (j:=0) h u9 rfl hm rfl (by omega);rwa[dN]at this
def DS(h:e.weight<4294967296):val e<=4294967296:=by unfold val;split<;>omega
def j9:I.aB 237=U (.slice 304):=by kernel_rfl
def Bp:aY I 304=.ok 3:=by kernel_rfl
def b9{t:aj}{p:Bool}(h:(I.aB t).map cW=U p):∃d,I.aB t=U d/\cW d=p:=by
 cases hq:I.aB t with
 |none=>rw[hq]at h;cases h
 |some d=>rw[hq]at h;exact⟨d,rfl,by simpa using h⟩
def mm:bM I 239 (pw b o) 0=.ok (pw b o):=by kernel_rfl
def jw:bM I 239 (pw b o) 1=.ok (pw b (o+1)):=by kernel_rfl
def uL:bM I 239 (pw b o) 2=.ok (pw b (o+2)):=by kernel_rfl
def gV.len{l:List cK}{x:O}(h:gV A l x):cQ I .len [237] [x]=.ok (iN (Z l)):=by
 obtain⟨b,h⟩:=h;have:=ai.len h j9;rwa[aR]at this
def gV.at{l:List cK}{x:O}{e:cK}(h:gV A l x)(hi:l[i]?=U e):
 ∃p,dQ I 237 x (.int .i64 i)=.ok p/\ax I A.get 304 p=.ok (.agg ⟨cD e⟩):=by
 obtain⟨b,h⟩:=h;have hl:i<(l.map cD).length:=by rw[aR];exact(bg.1 hi).1
 have hm:(l.map cD)[i]?=U (cD e):=by rw[da,hi];rfl
 obtain⟨d,hd1,hd2⟩:=b9 (by kernel_rfl);exact⟨_,ai.idx h j9 Bp hl,ai.bU h hd1 hd2 Bp hm⟩
def Kx(t:T O)(g:Nat->Option Ob)(e:aj)(x y:bA)(r:aj):eB I t g (.binOp .neq e x y r)=(ev t x).bind λ a=>(ev t y).bind λ b=>gP I g .neq e x y a b:=rfl
def eK:I.aB 146=U (.slice 239):=by kernel_rfl
def iS:aY I 239=.ok 3:=by kernel_rfl
def UO:eR I 239=.ok (3,[.slice Y 0 0,.bool af,.int .u64 0]):=by kernel_rfl
def Ta:aY I 146=.ok 1:=by kernel_rfl
def Ua:∃i,I.ty.get 239=U i/\0<i.bytes/\i.bytes<=65536:=by
 have h:(I.ty.get 239).map (λ i=>aM 0 i.bytes&&au i.bytes 65536)=U aa:=by kernel_rfl
 cases hq:I.ty.get 239 with
 |none=>rw[hq]at h;cases h
 |some i=>
  rw[hq]at h;simp only[fZ,eM,dz,bT]at h;exact⟨i,rfl,h.1,fQ h.2⟩
def MK{x:O}{s:ay}:eo I 146 1 [(0,.agg ⟨a_ x s⟩)]=.ok (ae 239 (a_ x s),.dy 1 2):=by kernel_rfl
def I8(t:T O)(k:cY):ev t (.const (.int k (-1)))=.ok (.int k (-1)):=rfl
theorem Ms:∀{l:List aD} {i:Nat} {a b:aD},gp l->l[i]?=U a->l[i+1]?=U b->cJ a.word b.word=aa
 |x::l,0,a,b,h,h1,h2=>by
  cases h1;rw[dU]at h2;exact h.1 b (fh h2)
 |x::l,i+1,a,b,h,h1,h2=>by
  rw[dU]at h1 h2;exact Ms h.2 h1 h2
end Go.Proofs.YtdobfpkceacneaaGreatDoor.sto
namespace Go.Sto
open Go.Am Go.Mdl Go.Sto Go.Shelf
theorem Om:∀{l:List UInt8} {n:Nat},l.Pairwise (·<·)->(∀x∈l,n<=x.toNat)->n<=256->Z l+n<=256
 | [],n,_,_,h=>by simpa using h
 |x::l,n,hp,hn,_=>by
  obtain⟨h1,h2⟩:=wg.1 hp;have hx:=x.toNat_lt;have:=Om (l:=l) (n:=x.toNat+1) h2 (λ y hy=>BY.1 (h1 y hy)) (by omega);have:=hn x cM;rw[cd];omega
variable {i:Nat}
def y_{s:ay}(h:AR i s):Z s.arcs<=256:=by
 have:=Om (n:=0) h.2.1 (λ _ _=>a6 _) (by omega);rwa[aR]at this
variable {M:List ay}
def Z2(g:Good M){s:ay}(h:s∈M):Z s.arcs<=256:=by
 obtain⟨i,hi,rfl⟩:=rA h;exact y_ (g.1 i _ (aV hi))
end Go.Sto
namespace Go.Proofs.YtdobfpkceacneaaGreatDoor.sto
open Go.Am Go.Mdl Go.Sto Go.Shelf
def qjx:eR I 44=.ok (3,[.string .empty,.int .u32 0,.bool af]):=by kernel_rfl
variable {e:aD}
def wK:eo I 40 1 [(0,.agg ⟨aS e⟩)]=.ok (ae 44 (aS e),.dy 1 2):=by kernel_rfl
def qiC:∃i,I.ty.get 44=U i/\0<i.bytes/\i.bytes<=65536:=by
 have h:(I.ty.get 44).map (λ i=>aM 0 i.bytes&&au i.bytes 65536)=U aa:=by kernel_rfl
 cases hq:I.ty.get 44 with
 |none=>rw[hq]at h;cases h
 |some i=>
  rw[hq]at h;simp only[fZ,eM,dz,bT]at h;exact⟨i,rfl,h.1,fQ h.2⟩
def wX(e:aD):∀v∈aS e,bI v=aa:=by
 intro v hv;simp only[aS,cC,en,or_false]at hv;rcases hv with rfl|rfl|rfl<;>rfl
variable {b:Nat}
def Eu{D:Mem}{l:List aD}{x:O}(h:ai D 44 3 b (l.map aS) x)(hl:Z l<1000000):
 ∃x' D',dm I (D.alloc (ae 44 (aS e))) 40 40 x (.slice (U ⟨D.next,0,Y⟩) 1 2)=.ok (x',D')/\ai D' 44 3 (D.next+1) ((l++[e]).map aS) x'/\D'.next=D.next+2/\∀z,z≠b->z<D.next->D'.get z=D.get z:=by
 obtain⟨i,t1,t2,t3⟩:=qiC;have h':ai (D.alloc (ae 44 (aS e))) 44 3 b (l.map aS) x:=h.same (by rw[aA];omega) λ hh=>c9 (by omega)
 obtain⟨x',D',h1,h2,h3,h4⟩:=ai.append h' mB mB qjx t1 t2 t3 (by omega) (by omega) (by rw[aR];omega) (cR D _) rfl (wX e);rw[aA]at h2 h3 h4;refine⟨x',D',h1,by rw[fY];exact h2,by omega,λ z hz hzn=>by rw[h4 z (λ hh=>aZ hh hz) (by omega),c9 (by omega)]⟩
def vS:cX I 239=.ok (.agg ⟨[.slice Y 0 0,.bool af,uN 0]⟩):=by kernel_rfl
def qhe:aY I 237=.ok 1:=by kernel_rfl
def qjs:eR I 304=.ok (3,[.int .u8 0,.int .u64 0,.int .i64 0]):=by kernel_rfl
variable {o:Nat}
def Wz{a:Nat}{n:Int}:eo I 237 1 [(0,.agg ⟨[.int .u8 a,.int .u64 o,.int .i64 n]⟩)]=.ok (ae 304 [.int .u8 a,.int .u64 o,.int .i64 n],.dy 1 2):=by kernel_rfl
def qiw:∃i,I.ty.get 304=U i/\0<i.bytes/\i.bytes<=65536:=by
 have h:(I.ty.get 304).map (λ i=>aM 0 i.bytes&&au i.bytes 65536)=U aa:=by kernel_rfl
 cases hq:I.ty.get 304 with
 |none=>rw[hq]at h;cases h
 |some i=>
  rw[hq]at h;simp only[fZ,eM,dz,bT]at h;exact⟨i,rfl,h.1,fQ h.2⟩
def VJ{a:Nat}{n:Int}:ef I 304 [(0,.int .u8 a),(1,.int .u64 o),(2,.int .i64 n)]=.ok (.agg ⟨[.int .u8 a,.int .u64 o,.int .i64 n]⟩):=by kernel_rfl
variable {c:Nat}{y:O}
def Vc{D:Mem}{l:List cK}{a:cK}(h:ai D 304 3 c (l.map cD) y)(hl:Z l<1000000):
 ∃y' D',dm I (D.alloc (ae 304 (cD a))) 237 237 y (.slice (U ⟨D.next,0,Y⟩) 1 2)=.ok (y',D')/\ai D' 304 3 (D.next+1) ((l++[a]).map cD) y'/\D'.next=D.next+2/\∀z,(z=c->y=.slice Y 0 0)->z<D.next->D'.get z=D.get z:=by
 obtain⟨i,t1,t2,t3⟩:=qiw;have h':ai (D.alloc (ae 304 (cD a))) 304 3 c (l.map cD) y:=h.same (by rw[aA];omega) λ hh=>c9 (by omega)
 obtain⟨x',D',h1,h2,h3,h4⟩:=ai.append h' j9 j9 qjs t1 t2 t3 (by omega) (by omega) (by rw[aR];omega) (cR D _) rfl (by
  intro v hv;simp only[cD,cC,en,or_false]at hv;rcases hv with rfl|rfl|rfl<;>rfl)
 rw[aA]at h2 h3 h4;exact⟨x',D',h1,by rw[fY];exact h2,by omega,λ z hz hzn=>by rw[h4 z hz (by omega),c9 (by omega)]⟩
variable {A:Mem}{M:List ay}
def dJ.len(h:dJ A M y):cQ I .len [146] [y]=.ok (iN (Z M)):=by
 obtain⟨b,rows,h1,h2,-⟩:=h;have:=ai.len h1 eK;rwa[h2]at this
variable {i:Nat}
def dJ.at{s:ay}(h:dJ A M y)(hi:M[i]?=U s):
 ∃x p,dQ I 146 y (.int .i64 i)=.ok p/\ax I A.get 239 p=.ok (.agg ⟨a_ x s⟩)/\gV A s.arcs x/\∃q,bM I 239 p 0=.ok q/\ax I A.get 237 q=.ok x:=by
 obtain⟨b,rows,h1,h2,h3⟩:=h;obtain⟨x,e1,e2⟩:=h3 i s hi;have hl:=(bg.1 e1).1;obtain⟨d,hd1,hd2⟩:=b9 (by kernel_rfl);refine⟨x,_,ai.idx h1 eK iS hl,ai.bU h1 hd1 hd2 iS e1,e2,_,mm,?_⟩;have:=ai.load (j:=0) h1 j9 rfl e1 rfl (by omega);rwa[dN]at this
def dx(l:List aD):List ay:=(fe 256 l 0 (least l) []).1
def Nz{l:List aD}(h0:l≠ [])(ha:gp l)(hw:∀e∈l,Z e.word<=255/\e.weight<4294967296):nh [] (fe 256 l 0 (least l) []) l 0 (least l):=
 Ty 256 l 0 [] [] ⟨λ i s h=>by simp at h,qz,λ i hi=>by simp at hi⟩ h0 ha (λ e _=>⟨rfl,a6 _⟩) λ e he=>⟨by have:=(hw e he).1;omega,DS (hw e he).2⟩
def iE:aY I 149=.ok 2:=by kernel_rfl
def DY:cX I 149=.ok (.agg ⟨[.slice Y 0 0,uN 0]⟩):=by kernel_rfl
variable {m:Nat}
def Vy{a:Option Addr}{n:Int}:ef I 149 [(0,.slice a m c),(1,.int .u64 n)]=.ok (.agg ⟨[.slice a m c,.int .u64 n]⟩):=by kernel_rfl
def jv:bM I 149 (pw b o) 0=.ok (pw b o):=by kernel_rfl
def Fg:bM I 149 (pw b o) 1=.ok (pw b (o+1)):=by kernel_rfl
def Ap:bM I 304 (pw b o) 0=.ok (pw b o):=by kernel_rfl
def yW:bM I 304 (pw b o) 1=.ok (pw b (o+1)):=by kernel_rfl
def uM:bM I 304 (pw b o) 2=.ok (pw b (o+2)):=by kernel_rfl
def gV.to{l:List cK}{x:O}{e:cK}(h:gV A l x)(hi:l[i]?=U e):
 ∃p,dQ I 237 x (.int .i64 i)=.ok p/\∃q,bM I 304 p 2=.ok q/\ax I A.get 3 q=.ok (.int .i64 e.to):=by
 obtain⟨b,h⟩:=h;have hl:i<(l.map cD).length:=by rw[aR];exact(bg.1 hi).1
 exact⟨_,ai.idx h j9 Bp hl,_,uM,ai.load h u3 rfl (show(l.map cD)[i]?=U (cD e) by rw[da,hi];rfl) rfl (by omega)⟩
def A6{D:Mem}{x:O}{s:ay}(h:gV D s.arcs x):bX I (D.alloc (ae 239 [.slice Y 0 0,.bool af,uN 0])) 239 (pw D.next 0) (.agg ⟨a_ x s⟩)=.ok (D.alloc (ae 239 (a_ x s))):=by
 obtain⟨b,h⟩:=h;refine ep iS rfl (by simp[a_]) (by simp) ?_;intro v hv;simp only[a_,cC,en,or_false]at hv;rcases hv with rfl|rfl|rfl
 .exact(ai.di h).2
 .rfl
 .rfl
def dJ.self(h:dJ A M y):y.cells.toList=[y]/\bI y=aa:=by
 obtain⟨b,rows,h1,-⟩:=h;exact ai.di h1
def j_:I.aB 123=U (.slice 5):=DP
def H7(l m:List UInt8):dw (l++m)=dw l++dw m:=by simp[dw]
def WO:∃d,I.aB 266=U d/\cW d=af:=by
 have h:(I.aB 266).map cW=U af:=by kernel_rfl
 cases hq:I.aB 266 with
 |none=>rw[hq]at h;cases h
 |some d=>rw[hq]at h;exact⟨d,rfl,by simpa using h⟩
def WC:aY I 266=.ok 1:=by kernel_rfl
def MN:aY I 123=.ok 1:=by kernel_rfl
def G0:eR I 5=.ok (1,[.int .u8 0]):=by kernel_rfl
def GJ:∃i,I.ty.get 5=U i/\i.bytes=1:=by
 have h:((I.ty.get 5).map λ i=>i.bytes)=U 1:=by kernel_rfl
 cases hq:I.ty.get 5 with
 |none=>rw[hq]at h;cases h
 |some i=>rw[hq]at h;exact⟨i,rfl,by simpa using h⟩
def Fv(b:Nat):bM I 268 (pw b 0) 0=.ok (pw b 0):=by kernel_rfl
def Jr(b:Nat):bM I 268 (pw b 0) 1=.ok (pw b 1):=by kernel_rfl
def mL(A:Mem)(e:aj)(b:Nat)(l:List O)(x:O):Prop:=
 (x=.slice Y 0 0/\l=[])\/(l≠ []/\x=.slice (U ⟨b,0,Y⟩) (Z l) (cu (Z l) 1)/\b<A.next/\de A e b .row l)
variable {l:List O}
def mL.dy{e:aj}{x:O}(h:mL A e b l x):eY A e b l x:=by
 rcases h with h|⟨_,h1,h2,h3⟩
 .exact .inl h
 .exact .inr ⟨.row,_,h1,h2,h3,.inr ⟨rfl,.inl rfl⟩⟩
variable {A':Mem}
def mL.same{e:aj}{x:O}(h:mL A e b l x)(hn:A.next<=A'.next)(hg:b<A.next->A'.get b=A.get b):mL A' e b l x:=by
 rcases h with h|⟨h0,h1,h2,h3⟩
 .exact .inl h
 .exact .inr ⟨h0,h1,dc h2 hn,h3.same (hg h2)⟩
variable {tb:aO}
def mL.tu{st xt e:aj}{xd:TypeDesc}{i:TypeInfo}{z:O}{nl:List O}{x:O}(h:mL A e b l x)(hst:tb.aB st=U (.slice e))(hxt:tb.aB xt=U xd)(hxd:jx xd=af)(hz:eR tb e=.ok (1,[z]))(hi:tb.ty.get e=U i)(hib:0<i.bytes)(hib':i.bytes<=65536)
 (hl:Z l+m<=16777216)(hm0:0<m)(hy:fu y=.ok m)(hnew:ib A.get 1 m y=.ok nl)(hm:Z nl=m)(h1c:∀v∈nl,bI v=aa):
 ∃x' A',dm tb A st xt x y=.ok (x',A')/\mL A' e A.next (l++nl) x'/\A'.next=A.next+1/\∀z,z≠b->z<A.next->A'.get z=A.get z:=by
 have he1:(1:Nat)<65536:=by omega
 have hlim:(au (Z l+m) 16777216&&au i.bytes 65536&&aM 0 i.bytes&&aM 0 1&&aM 1 65536)=aa:=by
  have a1:=mJ (by omega);have a2:=mJ hib';have a3:aM 0 i.bytes=aa:=by rw[bT];exact hib
  rw[a1,a2,a3];rfl
 have hone:=ov.2 h1c;have fin:∀(A0:Mem),A0.next=A.next->(∀y,y≠b->A0.get y=A.get y)->
  mL (A0.alloc (.cells e .row 0 (T.bP .e 0 (l++nl)))) e A.next (l++nl) (.slice (U ⟨A.next,0,Y⟩) (Z l+m) (cu (Z l+m) 1))/\(A0.alloc (.cells e .row 0 (T.bP .e 0 (l++nl)))).next=A.next+1/\∀y,y≠b->y<A.next->(A0.alloc (.cells e .row 0 (T.bP .e 0 (l++nl)))).get y=A.get y:=by
  intro A0 hn hg;refine⟨.inr ⟨λ h0=>by rw[(List.append_eq_nil_iff.1 h0).2]at hm;simp at hm;omega,by rw[aU,hm],by rw[aA];omega,og ?_⟩,by rw[aA,hn],λ y hy hlt=>?_⟩
  .rw[<-hn];exact cR _ _
  .rw[c9 (by omega),hg y hy]
 rcases h with⟨rfl,rfl⟩|⟨h0,rfl,h2,h3⟩
 .refine⟨.slice (U ⟨A.next,0,Y⟩) (0+m) (cu (0+m) 1),A.alloc (.cells e .row 0 (T.bP .e 0 ([]++nl))),?_,fin A rfl (λ _ _=>rfl)⟩;unfold dm gx;have hble:au (0+m) (bH 0)=af:=by
   cases hq:au (0+m) (bH 0)with
   |false=>rfl
   |true=>have:=fQ hq;have h9:bH 0=0:=rfl;omega
  have hx:dH 0=aa:=rfl;have hel:gO A.get 1 0 Y=.ok []:=rfl;simp only[dL]at hlim;simp only[hst,hxt,hxd,ba,hz,R.aT,hy,hnew,hble,hi,hlim,aI,hel,hx]
 .obtain⟨cs,hb',hcs⟩:=h3;have hel:=Ao ⟨cs,hb',hcs⟩;have hble:au (Z l+m) (bH (cu (Z l) 1))=af:=by
   rw[gB he1];cases hq:au (Z l+m) (Z l)with
   |false=>rfl
   |true=>have:=fQ hq;omega
  have hx:dH (cu (Z l) 1)=af:=iK _ _;have he:aL (gM (cu (Z l) 1)) 1=aa:=by rw[lj he1];rfl
  have hfz:(au 0 (0+Z l*1)&&(aL e e&&aM 0 9223372036854775808))=aa:=by
   have h0:aM 0 9223372036854775808=aa:=by rw[bT];omega
   rw[h0];simp
  refine⟨_,(A.set b .dead).alloc (.cells e .row 0 (T.bP .e 0 (l++nl))),?_,fin (A.set b .dead) (cE _ _ _) (λ y hy=>by rw[cr,aq hy])⟩;unfold dm gx;simp only[hst,hxt,hxd,ba,hz,R.aT,hy,hnew,hble,hi,hlim,aI,hel,hx,he,hone,sY,hb',hfz]
def Bd(bb b:Nat)(bs:List UInt8)(D:Mem):Prop:=∃pa x,de D 268 bb (.var 2) [pa,x]/\(pa=.pointer Y\/pa=pw bb 0)/\mL D 5 b (dw bs) x/\b≠bb/\bb<D.next
section
variable {ih:aH->St->R (Ex×St)}{dst:Option Tmp}{ty:aj}{pos:String}{after:Array Edge}{g:Option (Nat×Bool)}{s:St}{k:St->R (Ex×St)}
def qcL(x:bA):bB I ih {dst,op:=.convert 266 379 x,type:=ty,pos,after,guard:=g} s k=(ev s.t x).bind λ x=>(gN I s.m.get 266 379 x).bind λ v=>bS s dst v k:=by
 rw[uY (hc:=by kernel_rfl) (hi:=rfl)];simp only[eB,R.ec]
def qcN(x:bA):bB I ih {dst,op:=.convert 379 266 x,type:=ty,pos,after,guard:=g} s k=(ev s.t x).bind λ x=>(gN I s.m.get 379 266 x).bind λ v=>bS s dst v k:=by
 rw[uY (hc:=by kernel_rfl) (hi:=rfl)];simp only[eB,R.ec]
end
def qa5{ih:aH->St->R (Ex×St)}{x:O}:cH I ih (.fn 259 [x]) A=.ok (.val x A):=by
 have h1:=aN Tryz.func259;have h2:Tryz.f259.body=Y:=by kernel_rfl
 have h3:I.ex.get 259=U 1:=by kernel_rfl
 have h4:(Tryz.f259.name== "runtime.NumGoroutine")=false:=by kernel_rfl
 unfold cH;simp only[h1,h2,h3,h4,ba];rfl
variable {bb:Nat}
def Vv{D:Mem}(h:de D 268 bb (.var 2) l):gN I D.get 266 379 (pw bb 0)=.ok (pw bb 0):=by
 obtain⟨c,e,-⟩:=h;have u1:I.aB 266=U (.pointer 268):=by kernel_rfl
 have u2:I.aB 379=U .unsafePointer:=by kernel_rfl
 have u3:aY I 268=.ok 2:=by kernel_rfl
 unfold gN;simp only[u1,u2,e,u3,R.aT];rfl
def Vx{D:Mem}(h:de D 268 bb (.var 2) l):gN I D.get 379 266 (pw bb 0)=.ok (pw bb 0):=by
 obtain⟨c,e,-⟩:=h;have u1:I.aB 266=U (.pointer 268):=by kernel_rfl
 have u2:I.aB 379=U .unsafePointer:=by kernel_rfl
 have u3:aY I 268=.ok 2:=by kernel_rfl
 have u4:liesAt I.P I.P.depth 268 (2/I.P.cellsOf 268) 0 268 1=aa:=by kernel_rfl
 unfold gN;simp only[u1,u2,e,u3,R.aT,u4,aI]
def Af:=cg yB
def XA:yB.body=U (.seq (sub Af [0]) (sub Af [1])):=by kernel_rfl
variable {bs:List UInt8}
def Sa{D:Mem}(h:Bd bb b bs D):∃D',az I 220 [pw bb 0] D cL D'/\Bd bb b bs D'/\D'.next=D.next/\∀y,y≠bb->D'.get y=D.get y:=by
 obtain⟨pa,x,hv,hpa,hs,hbb,hn⟩:=h;obtain⟨d28,w27,w28⟩:=WO;have hl0:ax I D.get 266 (pw bb 0)=.ok pa:=c7 w27 w28 hv rfl;obtain⟨v,D',hg,rfl,h1⟩:∃v D',az I 220 [pw bb 0] D v D'/\v=cL/\(Bd bb b bs D'/\D'.next=D.next/\∀y,y≠bb->D'.get y=D.get y):=by
  refine mc (aN Tryz.func220) XA (by rw[Tryz.ntmps220];simp) (by kernel_rfl) (by kernel_rfl) ?_;apply W.seq;rcases hpa with rfl|rfl
  .have he:gP I D.get .eql 266 (.tmp 5) (.const (.pointer Y)) (.pointer Y) (.pointer Y)=.ok (.bool aa):=by kernel_rfl
   obtain⟨D1,hst,hv1,hn1,hg1⟩:=df (o:=0) (v:=pw bb 0) WC hv (by simp) rfl rfl;apply W.run 20
   .intro M;simp(disch:=decide+kernel)only[Af,yB,Aq,V,bW,bV,Fv,hl0,eW,he];rfl
   apply W.run 20
   .intro M;simp(disch:=omega)only[Af,yB,Aq,V,bW,bV,Fv,qcL,qcN,Vv hv,Vx hv,qa5,hst];rfl
   refine⟨.inl rfl,_,[],rfl,?_,rfl,⟨_,x,hv1,.inr rfl,?_,hbb,by rw[hn1];exact hn⟩,hn1,hg1⟩
   .simp only[yB,eC]
   .exact hs.same (by rw[hn1];exact aJ _) (λ _=>hg1 b hbb)
  .have he:gP I D.get .eql 266 (.tmp 5) (.const (.pointer Y)) (pw bb 0) (.pointer Y)=.ok (.bool af):=by kernel_rfl
   have he2:gP I D.get .neq 266 (.tmp 17) (.tmp 18) (pw bb 0) (pw bb 0)=.ok (.bool af):=by
    have u1:I.aB 266=U (.pointer 268):=by kernel_rfl
    have hb:=uj bb;have u2:aY I 268=.ok 2:=by kernel_rfl
    have u3:Am.ptrEq D.get (U ⟨bb,0,Y⟩) (U ⟨bb,0,Y⟩)=.ok aa:=by
     unfold Am.ptrEq;simp only[hb,aI];rfl
    unfold gP jV;simp only[wZ,aI,u1,u2,u3,R.aT];rfl
   apply W.run 20
   .intro M;simp(disch:=decide+kernel)only[Af,yB,Aq,V,bW,bV,Fv,hl0,eW,he];rfl
   apply W.run 20
   .intro M;simp(disch:=decide+kernel)only[Af,yB,Aq,V,bW,bV,Fv,hl0,Dh,he2];rfl
   refine⟨.inl rfl,_,[],rfl,?_,rfl,⟨_,x,hv,.inr rfl,hs,hbb,hn⟩,rfl,λ _ _=>rfl⟩;simp only[yB,eC]
 exact⟨D',hg,h1⟩
def WK(a:Int):eo I 123 1 [(0,.int .u8 a)]=.ok (ae 5 [.int .u8 a],.dy 1 2):=by kernel_rfl
structure Grow (bb b:Nat) (A:Mem) (b':Nat) (A':Mem):Prop where
 n:A.next<=A'.next
 r:A.next<=b'
 g:∀y,y<A.next->y≠bb->y≠b->A'.get y=A.get y
variable {b':Nat}{B C:Mem}
def Grow.trans{b'':Nat}(h:Grow bb b A b' B)(k:Grow bb b' B b'' C):Grow bb b A b'' C:=⟨dp h.n k.n,by have:=h.n;have:=k.r;omega,λ y hy h1 h2=>by rw[k.g y (by have:=h.n;omega) h1 (by have:=h.r;omega),h.g y hy h1 h2]⟩
def WZ(c:UInt8):dw [c]=[bN c.toNat]:=rfl
variable {x':O}
def Mz{D1 D2:Mem}{pa x:O}(hv:de D1 268 bb (.var 2) [pa,x])(hpa:pa=.pointer Y\/pa=pw bb 0)(hb:bb<D1.next/\D1.next<=b')(h0:b≠bb)
 (hs:mL D2 5 b' (dw bs) x')(hn2:D1.next<=D2.next)(hg:∀y,y<D1.next->y≠b->D2.get y=D1.get y):∃D3,bX I D2 123 (pw bb 1) x'=.ok D3/\Bd bb b' bs D3/\Grow bb b D1 b' D3:=by
 obtain⟨D3,hst,hv3,hn3,hg3⟩:=df (o:=1) MN (hv.same (hg bb hb.1 (Ne.symm h0))) (by simp) hs.dy.cells hs.dy.one;exact⟨D3,hst,⟨pa,x',hv3,hpa,hs.same (by rw[hn3];exact aJ _) (λ _=>hg3 b' (by omega)),by omega,by omega⟩,⟨by omega,hb.2,λ y hy h1 h2=>by rw[hg3 y h1,hg y hy h2]⟩⟩
def wT:=cg BU
def XG:BU.body=U (.seq (sub wT [0]) (.seq (sub wT [1,0]) (.seq (sub wT [1,1,0]) (.seq (sub wT [1,1,1,0]) (sub wT [1,1,1,1]))))):=by kernel_rfl
def SO{D:Mem}{c:UInt8}(h:Bd bb b bs D)(hl:Z bs<16000000):∃D' b',az I 249 [pw bb 0,bN c.toNat] D .nilIface D'/\Bd bb b' (bs++[c]) D'/\Grow bb b D b' D':=by
 obtain⟨D1,⟨g,hg⟩,⟨pa,x,hv,hpa,hs,hbb,hn⟩,hn1,hg1⟩:=Sa h;have hld:ax I D1.get 123 (pw bb 1)=.ok x:=c7 j_ rfl hv rfl;obtain⟨ti,ht1,ht2⟩:=GJ;have hn2:=aA D1 (ae 5 [bN c.toNat]);have hs2:mL (D1.alloc (ae 5 [bN c.toNat])) 5 b (dw bs) x:=hs.same (by omega) (λ hb=>c9 (by omega));obtain⟨x',D3,happ,hs3,hn3,hf3⟩:=hs2.tu (y:=.slice (U ⟨D1.next,0,Y⟩) 1 2) j_ j_ rfl G0 ht1 (by omega) (by omega) (by rw[jk];omega) (by omega) rfl
  (Ao (l:=[bN c.toNat]) (og (cR D1 _))) rfl (λ v hv=>by
  rw[ee.1 hv];rfl)
 have hs4:mL D3 5 (D1.alloc (ae 5 [bN c.toNat])).next (dw (bs++[c])) x':=by rw[H7,WZ];exact hs3
 obtain⟨D4,hst,hB,hK⟩:=Mz hv hpa ⟨hn,by omega⟩ hbb hs4 (by omega) (λ y hy hb=>by rw[hf3 y hb (by omega),c9 (by omega)]);obtain⟨v,D',ha,rfl,rfl⟩:∃v D',az I 249 [pw bb 0,bN c.toNat] D v D'/\v=.nilIface/\D'=D4:=by
  refine mc (aN Tryz.func249) XG (by rw[Tryz.ntmps249];simp) (by kernel_rfl) (by kernel_rfl) ?_;apply W.ie (g)
  .intro M hM _;simp(disch:=omega)only[wT,BU,Aq,V,w9,hg];rfl
  apply W.q2
  .intro M _;simp(disch:=decide+kernel)only[wT,BU,Aq,V,bW,bV,Jr,hld,WK,happ,hst,w9];rfl
  apply W.run 20
  .intro M;simp only[wT,BU,Aq,V,w9];rfl
  refine⟨.inr rfl,_,[.nilIface],rfl,?_,rfl,rfl⟩;simp only[BU,eC,sA,T.cq,V,bR,bO,sq,R.aT]
 exact⟨_,_,ha,hB,⟨by rw[<-hn1];exact hK.n,by rw[<-hn1];exact hK.r,λ y hy hb h2=>by rw[hK.g y (by omega) hb h2,hg1 y hb]⟩⟩
def wO:=cg BR
def Xi:BR.body=U (.seq (sub wO [0]) (.seq (sub wO [1,0]) (.seq (sub wO [1,1,0]) (.seq (sub wO [1,1,1,0]) (sub wO [1,1,1,1]))))):=by kernel_rfl
def HW{l:List UInt8}:ib A.get 1 (Z l) (ag l)=.ok (dw l):=by
 show R.ok (ya gd (l.take (Z l)))=_;rw[dY];rfl
def MJ(l:List UInt8):fu (ag l)=.ok (Z l):=rfl
def qgE{D:Mem}{cs:List UInt8}(h:Bd bb b bs D)(h0:0<Z cs)(hl:Z bs+Z cs<16000000):∃v D' b',az I 170 [pw bb 0,ag cs] D v D'/\Bd bb b' (bs++cs) D'/\Grow bb b D b' D':=by
 obtain⟨D1,⟨g,hg⟩,⟨pa,x,hv,hpa,hs,hbb,hn⟩,hn1,hg1⟩:=Sa h;have hld:ax I D1.get 123 (pw bb 1)=.ok x:=c7 j_ rfl hv rfl;have ll:=lK (l:=cs) u9;obtain⟨ti,ht1,ht2⟩:=GJ;obtain⟨x',D3,happ,hs3,hn3,hf3⟩:=hs.tu j_ u9 rfl G0 ht1 (by omega) (by omega) (by rw[jk];omega) h0 (MJ cs) HW (jk cs) (λ v hv=>by
  unfold dw at hv;obtain⟨c,-,rfl⟩:=dA.1 hv;rfl)
 have hs4:mL D3 5 D1.next (dw (bs++cs)) x':=by rw[H7];exact hs3
 obtain⟨D4,hst,hB,hK⟩:=Mz hv hpa ⟨hn,aJ _⟩ hbb hs4 (by omega) (λ y hy hb=>hf3 y hb (by omega));obtain⟨v,D',ha,rfl⟩:∃v D',az I 170 [pw bb 0,ag cs] D v D'/\D'=D4:=by
  refine mc (aN Tryz.func170) Xi (by rw[Tryz.ntmps170];simp) (by kernel_rfl) (by kernel_rfl) ?_;apply W.ie (g)
  .intro M hM _;simp(disch:=omega)only[wO,BR,Aq,V,w9,hg];rfl
  apply W.q2
  .intro M _;simp(disch:=decide+kernel)only[wO,BR,Aq,V,bW,bV,Jr,hld,happ,hst,w9,ll];rfl
  apply W.run 20
  .intro M;simp only[wO,BR,Aq,V];rfl
  refine⟨.inr rfl,_,[iN (Z cs),.nilIface],rfl,?_,rfl⟩;simp only[BR,eC,sA,T.cq,V,bR,bO,sq,R.aT]
 exact⟨_,_,_,ha,hB,⟨by rw[<-hn1];exact hK.n,by rw[<-hn1];exact hK.r,λ y hy hb h2=>by rw[hK.g y (by omega) hb h2,hg1 y hb]⟩⟩
def Cu:=cg Tryz.f171
def Xj:Tryz.f171.body=U (.seq (sub Cu [0]) (.seq (sub Cu [1,0]) (sub Cu [1,1]))):=by kernel_rfl
section
variable {ih:aH->St->R (Ex×St)}{dst:Option Tmp}{ty:aj}{pos:String}{after:Array Edge}{g:Option (Nat×Bool)}{s:St}{k:St->R (Ex×St)}
def qcK(x:bA):bB I ih {dst,op:=.call {callee:=.builtin .unsafeSliceData,args:= #[x],argTypes:= #[123]},type:=ty,pos,after,guard:=g} s k=(ev s.t x).bind λ v=>(cQ I .unsafeSliceData [123] [v]).bind λ v=>bS s dst v k:=by
 have hc:cls I (.call {callee:=.builtin .unsafeSliceData,args:= #[x],argTypes:= #[123]})=.P:=by kernel_rfl
 unfold bB;simp only[qf,hc,gT,eI,R.ec,R.aT]
def qcM(x y:bA):bB I ih {dst,op:=.call {callee:=.builtin .unsafeString,args:= #[x,y],argTypes:= #[329,3]},type:=ty,pos,after,guard:=g} s k=(ev s.t x).bind λ v=>(ev s.t y).bind λ n=>(zx I s.m 329 v n).bind λ r=>bS {s with m:=r.2} dst r.1 k:=by
 have hc:cls I (.call {callee:=.builtin .unsafeString,args:= #[x,y],argTypes:= #[329,3]})=.L:=by kernel_rfl
 unfold bB;simp only[qf,hc,jX,eI,R.ec,R.aT,tD]
end
def WY(l:List UInt8):bytesOf (dw l)=.ok l:=Cs l
def qi8{D:Mem}(h:de D 5 b .row (dw bs))(h0:0<Z bs)(hl:Z bs<16000000):∃D',zx I D 329 (pw b 0) (iN (Z bs))=.ok (ag bs,D')/\D'.next=D.next/\∀y,y≠b->D'.get y=D.get y:=by
 obtain⟨c,h1,h2⟩:=h;have u1:I.aB 329=U (.pointer 5):=by kernel_rfl
 have u2:aY I 5=.ok 1:=by kernel_rfl
 have hn:iC (iN (Z bs))=.ok (Z bs):=rfl;have hg:=oP c (Z bs) 0 (dw bs) (jk bs) (λ j hj=>by rw[dO];exact h2 j (by rw[jk];exact hj));have hb:(aL 5 5&&aL 1 1&&aM 0 (Z bs)&&au (Z bs) 16777216&&(aM 0 9223372036854775808&&aM (0+Z bs) 9223372036854775808))=aa:=by
  have a1:aM 0 (Z bs)=aa:=by rw[bT];exact h0
  have a2:au (Z bs) 16777216=aa:=mJ (by omega);have a3:aM (0+Z bs) 9223372036854775808=aa:=by rw[bT];omega
  rw[a1,a2,a3];rfl
 refine⟨D.set b (.cells 5 .row (bif au 0 (0+Z bs)then 0+Z bs else 0) c),?_,cE _ _ _,λ y hy=>by rw[cr,aq hy]⟩;unfold zx;simp only[hn,R.aT,u1,h1,u5,u2,hb,aI,hg,WY]
def qeN{D:Mem}(h:Bd bb b bs D)(h0:0<Z bs)(hl:Z bs<16000000):∃D',az I 171 [pw bb 0] D (ag bs) D'/\D'.next=D.next/\∀y,y≠b->D'.get y=D.get y:=by
 obtain⟨pa,x,hv,hpa,hs,hbb,hn⟩:=h;have hld:ax I D.get 123 (pw bb 1)=.ok x:=c7 j_ rfl hv rfl;rcases hs with⟨rfl,hnil⟩|⟨hne,rfl,hlt,hV⟩
 .have:Z bs=0:=by rw[<-jk,hnil];rfl
  omega
 obtain⟨D1,hu,hn1,hg1⟩:=qi8 hV h0 hl;rw[jk]at hld hv;have hsd:cQ I .unsafeSliceData [123] [.slice (U ⟨b,0,Y⟩) (Z bs) (cu (Z bs) 1)]=.ok (pw b 0):=by
  have hc:aM 0 (bH (cu (Z bs) 1))=aa:=by rw[gB (by omega),bT];exact h0
  unfold cQ;simp only[hc,aI]
 have hln:cQ I .len [123] [.slice (U ⟨b,0,Y⟩) (Z bs) (cu (Z bs) 1)]=.ok (iN (Z bs)):=jY j_;obtain⟨v,D',ha,rfl,rfl⟩:∃v D',az I 171 [pw bb 0] D v D'/\v=ag bs/\D'=D1:=by
  refine mc (aN Tryz.func171) Xj (by rw[Tryz.ntmps171];simp) (by kernel_rfl) (by kernel_rfl) ?_;apply W.q2
  .intro M _;simp(disch:=decide+kernel)only[Cu,Tryz.f171,Aq,V,bW,bV,Jr,hld,qcK,qcM,hsd,hln,hu];rfl
  apply W.run 20
  .intro M;simp only[Cu,Tryz.f171,Aq,V];rfl
  refine⟨.inr rfl,_,[ag bs],rfl,?_,rfl,rfl⟩;simp only[Tryz.f171,eC,sA,T.cq,V,bR,bO,sq,R.aT]
 exact⟨_,ha,hn1,hg1⟩
def RA(t:T O)(g:Nat->Option Ob)(a b:aj)(x:bA):eB I t g (.convert a b x)=(ev t x).bind λ x=>gN I g a b x:=rfl
def RN(g:Nat->Option Ob)(j:Nat)(t:T O)(a b:aj)(x:Tmp)(v:O):jA I g ⟨j,t,.convert a b (.tmp x),v⟩=KA ((ev t (.tmp x)).bind λ x=>gN I g a b x) v:=rfl
def Co{c:Int}:eo I 123 1 [(0,.int .u8 c)]=.ok (ae 5 [.int .u8 c],.dy 1 2):=by kernel_rfl
variable {dst:Option Tmp}{pos:String}{after:Array Edge}
def F3{ih:aH->St->R (Ex×St)}{ty:aj}{g:Option (Nat×Bool)}{s:St}{k:St->R (Ex×St)}(x:bA):bB I ih {dst,op:=.convert 123 9 x,type:=ty,pos,after,guard:=g} s k=(ev s.t x).bind λ x=>(gN I s.m.get 123 9 x).bind λ v=>bS s dst v k:=by
 rw[uY (hc:=by kernel_rfl) (hi:=rfl)];simp only[eB,R.ec]
def qh5{D:Mem}{c:UInt8}:gN I (D.alloc (ae 5 [bN c.toNat])).get 123 9 (.slice (U ⟨D.next,0,Y⟩) 1 2)=.ok (ag [c]):=by
 have h:=K_ (qhr (D:=D) c.toNat_lt);rw[UInt8.ofNat_toNat]at h;exact h
def Za(t:T O):ev t (.const (.string ⟨#[67,83,1]⟩))=.ok (ag [67,83,1]):=rfl
def cat{a b:List UInt8}(h:(a++b).length<1000000):j8 .add a b=.ok (ag (a++b)):=DG (by rw[aU]at h;omega)
def qh8{s:ay}(h:M[i]?=U s):iR 0 (M.take (i+1))=iR 0 (M.take i)++nU i s:=by
 obtain⟨hi,rfl⟩:=bg.1 h;rw[eH hi,TJ,db,dO,oA (by omega)]
theorem TI:∀(M:List ay) (j i:Nat),(iR j (M.take i)).length<=(iR j M).length
 | [],j,i=>by rw[List.take_nil];exact aJ _
 |s::M,j,0=>by simp[iR]
 |s::M,j,i+1=>by
  rw[Ee,iR,iR,aU,aU];have:=TI M (j+1) i;omega
theorem OF{i:Nat}:∀(l:List cK) (j:Nat),((l.take j).flatMap (jh i)).length<=(l.flatMap (jh i)).length
 | [],j=>by rw[List.take_nil];exact aJ _
 |a::l,0=>by simp
 |a::l,j+1=>by
  rw[Ee,j',j',aU,aU];have:=OF (i:=i) l j;omega
variable {j:Nat}
def ZV{l:List cK}{a:cK}(h:l[j]?=U a):(l.take (j+1)).flatMap (jh i)=(l.take j).flatMap (jh i)++jh i a:=by
 obtain⟨hj,rfl⟩:=bg.1 h;rw[eH hj,zL];simp
def iw(l:List aD):List UInt8:=nR (Z l) (dx l) (least l)
def I_(t:T O):ev t (.const (.string ⟨#[]⟩))=.ok (ag []):=rfl
end Go.Proofs.YtdobfpkceacneaaGreatDoor.sto
end
