/- The abstract machine, the walk of the law and its plain laws, made small by a program; part 7: no conditions but those in each theorem. -/
import Derived.Test.YtggndfefpbmaeaaGreatDoorQ06
set_option maxHeartbeats 16000000
set_option maxRecDepth 100000
set_option linter.unusedSimpArgs false
set_option linter.unusedVariables false
noncomputable section
open Nat renaming reduceEqDiff→X2,reduceAdd→X3,ble→X5,le_refl→X9,beq→Yc,blt→Ye,zero_le→Yg,blt_eq→Yl,eq_of_beq_eq_true→Yn,lt_of_lt_of_le→Yt,le_of_ble_eq_true→Yx,zero_add→Yy,le_trans→YC,lt_or_ge→YE,add_zero→YU,ble_eq_true_of_le→YY,min_eq_left→Y4,sub_zero→Zd,mul_one→Zf,sub_self→Zg,lt_irrefl→Zk,not_lt_zero→ZR,zero_mul→qaE,strongRecOn→qbf,max_eq_right→qbG,le_total→qbT,max_eq_left→qcc
open List renaming getElem?_eq_getElem→X6,getElem?_cons_succ→X7,getElem?_cons_zero→X8,getElem?_eq_some_iff→X_,length_append→X',length_map→Yb,take_succ_eq_append_getElem→Yd,length_cons→Yf,length_eq_zero_iff→Yh,mem_cons_of_mem→Yi,mem_cons_self→Yk,length_take→Yo,mem_cons→Yp,getElem?_map→Yr,length_nil→Ys,take_length→Yw,getElem?_append_left→Yz,getElem?_append_right→YA,mem_of_getElem?→YF,length_set→YG,not_mem_nil→YH,length_pos_iff→YM,mem_map→YN,replicate→YP,getElem_mem→YQ,getElem?_eq_none→YR,cons_append→YT,map_append→YV,getD_eq_getElem?_getD→YZ,flatMap_cons→Y0,append_assoc→Y1,drop_eq_getElem_cons→Y3,nil_append→Y6,mem_singleton→Y7,length_singleton→Y9,append_nil→Y',all_eq_true→Ze,foldl_cons→Zh,getElem?_set→Zn,mem_append→Zs,take_of_length_le→Zt,pairwise_iff_getElem→Zv,mem_or_eq_of_mem_set→Zw,foldl_append→ZA,map_cons→ZB,take_zero→ZC,flatMap_append→ZQ,mem_append_right→ZV,drop_zero→Z5,mem_flatMap→qaf,getElem?_take→qah,getElem_of_mem→qay,length_replicate→qaK,flatten_cons→qaR,nodup_cons→qbc,nodup_nil→qbs,map_nil→qbV,map_set→qbW,take_take→qb3,drop_length→qb7,map→qb9
open Bool renaming false_eq_true→Yj,and_eq_true→Yq,true_and→ZK,and_true→qau,false_and→qa1
open Option.some renaming injEq→YB,inj→YJ
open Option renaming map_some→YI,bind_some→ZZ
open List.cons renaming injEq→YL
open Go.Proofs.Tryz renaming f176→ZE,f169→ZI,f171→ZJ,f122→Z3,f60→qae,f188→qan,f135→qaD,f24→qbn,f180→qby,f62→qbM,f174→qcr,f172→qcs,f175→qct
open UInt8 renaming toNat_inj→ZS
namespace Go.Proofs.YtggndfefpbmaeaaGreatDoor.sto
open Go.Am Go.Mdl Go.Sto
section
variable {T:Type} (o:bj→T) (w:T→T→Nat→T) (z:T)
def jq (acc:List T) (s:bj) (j:Nat):T:=(s.arcs.take j).foldl (fun x a=>w x (acc.getD a.to z) a.out) (o s)
def di (M:List bj):List T:=M.foldl (fun acc s=>acc++[jq o w z acc s s.arcs.length]) []
theorem K8 (M:List bj) (s:bj):di o w z (M++[s])=di o w z M++[jq o w z (di o w z M) s s.arcs.length]:=by unfold di;rw [ZA];rfl
theorem lZ (M:List bj):(di o w z M).length=M.length:=by
 have:∀(l:List bj) (acc:List T),(l.foldl (fun acc s=>acc++[jq o w z acc s s.arcs.length]) acc).length=acc.length+l.length:=by
  intro l
  induction l with
  |nil=>intro acc;rfl
  |cons s l ih=>intro acc;rw [Zh,ih,X',Yf,Yf,Ys];omega
 unfold di;rw [this];simp
variable {j:Nat}
theorem pI {acc:List T} {s:bj} {a:cO} (h:s.arcs[j]?=some a):jq o w z acc s (j+1)=w (jq o w z acc s j) (acc.getD a.to z) a.out:=by
 obtain⟨hj,rfl⟩:=X_.1 h;unfold jq;rw [Yd hj,ZA];rfl
variable {M:List bj} {i:Nat}
theorem AX {s:bj} (h:M[i]?=some s):di o w z (M.take (i+1))=di o w z (M.take i)++[jq o w z (di o w z (M.take i)) s s.arcs.length]:=by
 obtain⟨hi,rfl⟩:=X_.1 h;rw [Yd hi,K8]
def jX (M:List bj) (i:Nat):List T:=di o w z (M.take i)++YP (M.length-i) z
theorem sW (h:i≤M.length):(jX o w z M i).length=M.length:=by unfold jX;rw [X',lZ,Yo,qaK];omega
variable {k:Nat}
theorem I0 (h:i≤M.length) (hk:k<i) (v:T):((jX o w z M i).set i v)[k]?=some ((di o w z (M.take i)).getD k z):=by
 have hl:=lZ o w z (M.take i);rw [Yo,Y4 h] at hl;rw [Zn,if_neg (by omega)];unfold jX;rw [Yz (by omega),X6 (by omega),YZ,X6 (by omega)];rfl
theorem Aa {s:bj} (h:M[i]?=some s):(jX o w z M i).set i (jq o w z (di o w z (M.take i)) s s.arcs.length)=jX o w z M (i+1):=by
 have hi:=(X_.1 h).1;have hl:=lZ o w z (M.take i);rw [Yo,Y4 (by omega)] at hl;unfold jX;rw [AX o w z h,List.set_append_right _ _ (by omega),hl,Zg,show M.length-i=(M.length-(i+1))+1 by omega,List.replicate_succ,List.set_cons_zero,Y1];rfl
end
theorem yI (l:List Value):∀n,qX l n=(YP n l).flatten
 |0=>rfl
 |n+1=>by
  show l++qX l n=_;rw [yI l n,List.replicate_succ,qaR]
def lA (v:Int):List Value:=[.int .i64 v]
def rU (v:Int):Value:=.int .i64 v
def zI:Int:=0
theorem Kn:ai.bp 300=some (.slice 3):=by kernel_rfl
theorem Pj:aY ai 300= .ok 1:=by kernel_rfl
theorem Q5:aY ai 3= .ok 1:=by kernel_rfl
variable {n:Nat}
theorem W4 (h:n≤1000000):eL ai 300 (.int .i64 (n:Nat)) (.int .i64 (n:Nat))= .ok (aa 3 ((YP n zI).map lA).flatten,.m_ n (2*n)):=by
 have h1:((ai.ty.get 3).map fun i=>i.bytes)=some 8:=by kernel_rfl
 have z3:cq ai 3= .ok (1,lA zI):=by kernel_rfl
 have e:lP (.int .i64 (n:Nat))= .ok n:=rfl;cases hq:ai.ty.get 3 with
 |none=>rw [hq] at h1;cases h1
 |some i=>
  rw [hq] at h1;have h2:i.bytes=8:=by simpa using h1
  have hb:(X5 n n&&X5 n 1048576&&X5 i.bytes 1048576)=true:=by
   rw [h2];simp;omega
  unfold eL;simp only [Kn,e,R.aA,z3,hq,hb,cond_true,yI,List.map_replicate]
variable {A:Mem} {b i:Nat}
theorem Jc {vs:List Int} {x:Value} (h:az A 3 1 b (vs.map lA) x) (hi:i<vs.length):aZ ai 300 x (.int .i64 i)= .ok (pw b (i*1)):=az.idx h Kn Q5 (by rw [Yb];exact hi)
theorem T1 {vs:List Int} {v:Int} {x:Value} (h:az A 3 1 b (vs.map lA) x) (hi:vs[i]?=some v):aq ai A.get 3 (pw b (i*1))= .ok (rU v):=by
 have:=az.load (tb:=ai) (i:=i) (j:=0) h u3 rfl (by rw [Yr,hi];rfl) rfl (by omega);rwa [YU] at this
theorem Vp {vs:List Int} {v:Int} {x:Value} (h:az A 3 1 b (vs.map lA) x) (hi:i<vs.length):∃A',aW ai A 3 (pw b (i*1)) (rU v)= .ok A'∧az A' 3 1 b ((vs.set i v).map lA) x∧A'.next=A.next∧∀y,y≠b→A'.get y=A.get y:=by
 have hm:(vs.map lA)[i]?=some (lA vs[i]):=by rw [Yr,X6 hi];rfl
 obtain⟨A',h1,h2,h3,h4⟩:=az.field (tb:=ai) (t:=3) (i:=i) (j:=0) (v:=rU v) h Q5 hm (by omega) rfl rfl;refine⟨A',by rwa [YU] at h1,?_,h3,h4⟩;rw [qbW];exact h2
structure dO where
 n:Nat
 fits:Bool
 any:Bool
def bQ (m:dO):List Value:=[.int .u64 m.n,.bool m.fits,.bool m.any]
def j6 (m:dO):Value:=.agg ⟨bQ m⟩
def zG:dO:=⟨0,false,false⟩
theorem Kj:ai.bp 306=some (.slice 259):=by kernel_rfl
theorem PZ:aY ai 306= .ok 1:=by kernel_rfl
theorem vT:aY ai 259= .ok 3:=by kernel_rfl
theorem Gw (m:dO):∀v∈bQ m,aJ v=true:=by simp [bQ,aJ]
theorem W0 (h:n≤1000000):eL ai 306 (.int .i64 (n:Nat)) (.int .i64 (n:Nat))= .ok (aa 259 ((YP n zG).map bQ).flatten,.m_ n (2*n)):=by
 have h1:((ai.ty.get 259).map fun i=>i.bytes)=some 24:=by kernel_rfl
 have z3:cq ai 259= .ok (3,bQ zG):=by kernel_rfl
 have e:lP (.int .i64 (n:Nat))= .ok n:=rfl;cases hq:ai.ty.get 259 with
 |none=>rw [hq] at h1;cases h1
 |some i=>
  rw [hq] at h1;have h2:i.bytes=24:=by simpa using h1
  have hb:(X5 n n&&X5 n 1048576&&X5 i.bytes 1048576)=true:=by
   rw [h2];simp;omega
  unfold eL;simp only [Kj,e,R.aA,z3,hq,hb,cond_true,yI,List.map_replicate]
theorem Ii {vs:List dO} {x:Value} (h:az A 259 3 b (vs.map bQ) x) (hi:i<vs.length):aZ ai 306 x (.int .i64 i)= .ok (pw b (i*3)):=az.idx h Kj vT (by rw [Yb];exact hi)
theorem TN {vs:List dO} {v:dO} {x:Value} (h:az A 259 3 b (vs.map bQ) x) (hi:vs[i]?=some v):aq ai A.get 259 (pw b (i*3))= .ok (j6 v):=by
 obtain⟨d,hd1,hd2⟩:=bA (t:=259) (p:=true) (by kernel_rfl);exact az.aQ h hd1 hd2 vT (by rw [Yr,hi];rfl)
theorem Vh {vs:List dO} {v:dO} {x:Value} (h:az A 259 3 b (vs.map bQ) x) (hi:i<vs.length):∃A',aW ai A 259 (pw b (i*3)) (j6 v)= .ok A'∧az A' 259 3 b ((vs.set i v).map bQ) x∧A'.next=A.next∧∀y,y≠b→A'.get y=A.get y:=by
 obtain⟨A',h1,h2,h3,h4⟩:=az.store (tb:=ai) (t:=259) (i:=i) (l:=bQ v) h vT (by omega) (by rw [Yb];exact hi) rfl (Gw v);refine⟨A',h1,?_,h3,h4⟩;rw [qbW];exact h2
def gb (ns:List Nat):List UInt8:=ns.flatMap fun n=>pO n++[32]
def qB (a:cO):List Nat:=[a.byte.toNat,a.out,a.to]
def uQ (s:bj):List Nat:=s.out::s.arcs.flatMap qB
def jZ (s:bj):List UInt8:=(if s.fin then [33] else [])++gb (uQ s)
theorem O4 {a:Nat} (ha:a<18446744073709551616) (hb:b<18446744073709551616) (h:pO a=pO b):a=b:=by
 have h1:=xp 13 a (by omega);have h2:=xp 13 b (by omega);unfold pO at h;rw [←h1,←h2,h]
theorem IV:∀{x y r q:List UInt8},(∀c∈x,48≤c.toNat)→(∀c∈y,48≤c.toNat)→x++32::r=y++32::q→x=y∧r=q
 | [],[],_,_,_,_,h=>⟨rfl,by simpa using h⟩
 | [],c::y,_,_,_,hy,h=>by
  have:=hy c Yk;simp only [Y6,YT,YL] at h;rw [←h.1] at this;exact absurd this (by decide)
 |c::x,[],_,_,hx,_,h=>by
  have:=hx c Yk;simp only [Y6,YT,YL] at h;rw [h.1] at this;exact absurd this (by decide)
 |c::x,d::y,r,q,hx,hy,h=>by
  simp only [YT,YL] at h;obtain⟨h1,h2⟩:=IV (fun e he=>hx e (Yi _ he)) (fun e he=>hy e (Yi _ he)) h.2;exact⟨by rw [h.1,h1],h2⟩
theorem Jj:∀{l m:List Nat},(∀n∈l,n<18446744073709551616)→(∀n∈m,n<18446744073709551616)→gb l=gb m→l=m
 | [],[],_,_,_=>rfl
 | [],n::m,_,_,h=>by simp [gb] at h
 |n::l,[],_,_,h=>by simp [gb] at h
 |n::l,k::m,hl,hm,h=>by
  simp only [gb,Y0,Y1,List.singleton_append] at h;obtain⟨h1,h2⟩:=IV (se 13 n) (se 13 k) h;rw [O4 (hl n Yk) (hm k Yk) h1,Jj (fun e he=>hl e (Yi _ he)) (fun e he=>hm e (Yi _ he)) h2]
theorem E7:∀{l m:List cO},l.flatMap qB=m.flatMap qB→l=m
 | [],[],_=>rfl
 | [],a::m,h=>by simp [qB] at h
 |a::l,[],h=>by simp [qB] at h
 |a::l,b::m,h=>by
  simp only [Y0,qB,YT,Y6,YL] at h;obtain⟨h1,h2,h3,h4⟩:=h;rw [E7 h4];obtain⟨a1,a2,a3⟩:=a;obtain⟨b1,b2,b3⟩:=b;simp only at h1 h2 h3;rw [ZS.1 h1,h2,h3]
def Fit (s:bj):Prop:=s.out<18446744073709551616∧∀a∈s.arcs,a.out<18446744073709551616∧a.to<1000000
theorem ER {s:bj} (h:Fit s):∀n∈uQ s,n<18446744073709551616:=by
 intro n hn;rcases Yp.1 hn with rfl|hn
 ·exact h.1
 ·obtain⟨a,ha,hn⟩:=qaf.1 hn;have:=h.2 a ha;have:=a.byte.toNat_lt;simp only [qB,Yp,YH,or_false] at hn;omega
theorem H6 (k n:Nat):nt (k+1) n≠ []:=by
 unfold nt;split<;>simp
theorem key_inj {s u:bj} (hs:Fit s) (hu:Fit u) (h:jZ s=jZ u):s=u:=by
 have hd:∀v:bj,∃c w,gb (uQ v)=c::w∧48≤c.toNat:=fun v=>by
  unfold gb uQ;rw [Y0];unfold pO;cases hq:nt 13 v.out with
  |nil=>exact absurd hq (H6 _ _)
  |cons c w=>exact⟨c,_,rfl,se 13 v.out c (by rw [hq];exact Yk)⟩
 unfold jZ at h;have hf:s.fin=u.fin∧gb (uQ s)=gb (uQ u):=by
  obtain⟨c1,w1,e1,g1⟩:=hd s;obtain⟨c2,w2,e2,g2⟩:=hd u;cases h1:s.fin<;>cases h2:u.fin<;>simp only [h1,h2,if_true,Yj,if_false,Y6,YT,YL,true_and] at h
  ·exact⟨rfl,h⟩
  ·rw [e1] at h;simp only [YL] at h;rw [h.1] at g1;exact absurd g1 (by decide)
  ·rw [e2] at h;simp only [YL] at h;rw [←h.1] at g2;exact absurd g2 (by decide)
  ·exact⟨rfl,h⟩
 have hn:=Jj (ER hs) (ER hu) hf.2;unfold uQ at hn;simp only [YL] at hn;obtain⟨f1,o1,a1⟩:=s;obtain⟨f2,o2,a2⟩:=u;simp only at hf hn;rw [hf.1,hn.1,E7 hn.2]
theorem D7 (l m:List Nat):gb (l++m)=gb l++gb m:=by unfold gb;rw [ZQ]
theorem sf:∀l:List Nat,(gb l).length≤14*l.length
 | []=>X9 _
 |n::l=>by
  have h1:=sf l;have h2:=yZ 13 n;unfold gb at h1⊢;rw [Y0,X',X',Yf,Yf,Ys];have e:(pO n).length=(nt 13 n).length:=rfl;rw [e];omega
variable {bb:Nat} {bs:List UInt8}
theorem rJ {D:Mem} (h:Bd bb b bs D) (hn:n<18446744073709551616) (hl:bs.length<1000000):∃v D' b',bL ai 219 [.int .u64 n,pw bb 0] D v D'∧Bd bb b' (bs++gb [n]) D'∧BU bb b D b' D':=by
 have hk:=fun ih A=>Xf (ih:=ih) (A:=A) hn
 have hlen:=yZ 13 n;obtain⟨v1,D1,b1,⟨g1,h1⟩,q1,k1⟩:=Pc (cs:=pO n) h (YM.2 (H6 12 n)) (by unfold pO;omega);obtain⟨D2,b2,⟨g2,h2⟩,q2,k2⟩:=AN (c:=32) q1 (by rw [X'];unfold pO;omega);have h2':∀M,g2≤M→bg ai (exec ai M) (.fn 221 [pw bb 0,.int .u8 (32:Nat)]) D1= .ok (.val .nilIface D2):=h2;refine⟨cM,D2,b2,?_,by rw [Y1] at q2;simpa [gb] using q2,k1.trans k2⟩;refine aT (aB Tryz.func219) (c:=Tryz.f219.body.getD .skip) (by kernel_rfl) (by rw [Tryz.ntmps219];simp) (by kernel_rfl) (by kernel_rfl) ?_;apply W.a6 (g1+g2) 60
 ·intro M hM;simp (disch:=first|decide+kernel|omega) only [Tryz.f219,Aq,X2,hk,h1,h2'];rfl
 exact⟨by simp,rfl,rfl,by simp only [Tryz.f219,Aq,X2,hk,h1,h2']<;>rfl⟩
noncomputable def lJ:Code:=qan.body.getD .skip
noncomputable def Fz:Code:=sub lJ [1,1,1,1,1,0,1,0,0]
theorem Pt:qan.body=some (.seq (sub lJ [0]) (.seq (sub lJ [1,0]) (.seq (sub lJ [1,1,0]) (.seq (sub lJ [1,1,1,0]) (.seq (sub lJ [1,1,1,1,0]) (.seq (.seq (sub lJ [1,1,1,1,1,0,0]) (.block 0 (.loop Fz))) (.seq (sub lJ [1,1,1,1,1,1,0]) (sub lJ [1,1,1,1,1,1,1])))))))):=by kernel_rfl
theorem Qt:b7 ai 225= .ok (.agg ⟨[.pointer none,.slice none 0 0]⟩):=by kernel_rfl
theorem TV (A:Mem):Bd A.next (A.next+1) [] (A.alloc (aa 225 [.pointer none,.slice none 0 0])):=
 ⟨.pointer none,_,gQ A 225 _,.inl rfl,.inl ⟨rfl,rfl⟩,by omega,by rw [ae];omega⟩
theorem Bd.al {D:Mem} (h:Bd bb b bs D) (o:Ob):Bd bb b bs (D.alloc o):=by
 obtain⟨pa,x,h1,h2,h3,h4,h5⟩:=h;exact⟨pa,x,h1.same (aH (by omega)),h2,h3.same (by rw [ae];omega) fun hb=>aH (by omega),h4,by rw [ae];omega⟩
theorem Nm {s:bj} {a:cO} (h:s.arcs[i]?=some a):gb ((s.arcs.take (i+1)).flatMap qB)=gb ((s.arcs.take i).flatMap qB)++gb [a.byte.toNat]++gb [a.out]++gb [a.to]:=by
 obtain⟨hi,rfl⟩:=X_.1 h;rw [Yd hi,ZQ,D7];simp [gb,qB]
theorem Oe (s:bj) (i:Nat):((s.arcs.take i).flatMap qB).length≤3*s.arcs.length:=by
 have:∀l:List cO,(l.flatMap qB).length=3*l.length:=by
  intro l
  induction l with
  |nil=>rfl
  |cons a l ih=>rw [Y0,X',ih,Yf];simp only [qB,Yf,Ys];omega
 rw [this,Yo];omega
def vz (s:bj) (i:Nat):List UInt8:=(if s.fin then [33] else [])++gb [s.out]++gb ((s.arcs.take i).flatMap qB)
theorem MW (s:bj) (i:Nat) (hl:s.arcs.length≤256):(vz s i).length≤20000:=by
 have h1:=sf ((s.arcs.take i).flatMap qB);have h2:=sf [s.out];have h3:=Oe s i;have h4:(if s.fin then [33] else []:List UInt8).length≤1:=by split<;>simp
 unfold vz;rw [X',X'];simp only [Yf,Ys] at h2;omega
theorem Ji (s:bj) (i:Nat):vz s i≠ []:=by
 unfold vz;simp [gb]
theorem Bd.lt {D:Mem} (h:Bd bb b bs D) (h0:bs≠ []):b<D.next:=by
 obtain⟨pa,x,-,-,h3,-,-⟩:=h;rcases h3 with⟨-,e⟩|⟨-,-,h,-⟩
 ·exact absurd (by simpa [eh] using e) h0
 ·exact h
def zu (p bb:Nat) (C:Mem) (bs:List UInt8) (F:Mem):Prop:=∃b,Bd bb b bs F∧C.next≤b∧C.next≤F.next∧∀y,y<C.next→y≠bb→F.get y=C.get y
variable {p b':Nat} {C:Mem}
theorem zu.grow {F G:Mem} (h1:C.next≤b) (h2:C.next≤F.next) (h3:∀y,y<C.next→y≠bb→F.get y=C.get y) (hB:Bd bb b' bs G) (k:BU bb b F b' G):zu p bb C bs G:=
 ⟨b',hB,by have:=k.r;omega,by have:=k.n;omega,fun y hy hb=>by rw [k.g y (by omega) hb (by omega),h3 y hy hb]⟩
theorem P_ {s:bj} {x:Value} (hx:j' A s.arcs x) (hf:Fit s) (hl:s.arcs.length≤256):∃v A',bL ai 188 [.agg ⟨cW x s⟩] A v A'∧v=strOf (jZ s)∧Kp A A':=by
 refine cS (aB Tryz.func188) Pt (by rw [Tryz.ntmps188];simp) (by kernel_rfl) (by kernel_rfl) ?_;have kB:=Kp.alloc A (aa 164 (cW x s));have vB:=aF A 164 (cW x s);apply W.seq;apply W.run 20
 ·intro M;simp (disch:=first|decide+kernel|omega) only [lJ,qan,Aq,X2,au];rfl
 show W ai _ _ _;have nB:(A.alloc (aa 164 (cW x s))).next=A.next+1:=ae _ _
 generalize A.alloc (aa 164 (cW x s))=B at kB vB nB;have bC:=TV B;have kC:=Kp.alloc B (aa 225 [.pointer none,.slice none 0 0]);have nC:(B.alloc (aa 225 [.pointer none,.slice none 0 0])).next=B.next+1:=ae _ _
 apply W.seq;apply W.run 20
 ·intro M;simp (disch:=first|decide+kernel|omega) only [lJ,qan,Aq,X2,Qt,au];rfl
 show W ai _ _ _;generalize B.alloc (aa 225 [.pointer none,.slice none 0 0])=C at bC kC nC;have toK:∀bs D,zu A.next B.next C bs D→Kp B D:=fun bs D h=>by
  obtain⟨b,-,-,h2,h3⟩:=h;exact⟨by omega,fun z hz=>by rw [h3 z (by omega) (by omega),kC.2 z hz]⟩
 have a1:aq ai C.get 4 (.pointer (some ⟨A.next,0+1,none⟩))= .ok (.bool s.fin):=(vB.kp kC).ld rfl u4 rfl;have rC:zu A.next B.next C [] C:=⟨B.next+1,bC,by omega,X9 _,fun _ _ _=>rfl⟩
 apply W.seq;apply W.run 20
 ·intro M;simp (disch:=first|decide+kernel|omega) only [lJ,qan,Aq,X2,aS];rfl
 apply W.seq;refine W.to (n:=38) (fun t D=>zu A.next B.next C (if s.fin then [33] else []) D∧Sl t [(1,.pointer (some ⟨A.next,0,none⟩)),(3,.pointer (some ⟨B.next,0,none⟩)),(4,.func (.func 219) ⟨[]⟩ ⟨[.pointer (some ⟨B.next,0,none⟩)]⟩)]) ?_ ?_
 ·cases hfin:s.fin with
  |true=>
   rw [hfin] at a1;obtain⟨D2,b2,⟨g2,h2⟩,q2,k2⟩:=AN (c:=33) bC (by simp);have h2':∀M,g2≤M→bg ai (exec ai M) (.fn 221 [.pointer (some ⟨B.next,0,none⟩),.int .u8 (33:Nat)]) C= .ok (.val .nilIface D2):=h2;apply W.a6 (g2) 20
   ·intro M hM;simp (disch:=first|decide+kernel|omega) only [lJ,qan,Aq,X2,cR,a1,h2'];rfl
   refine⟨rfl,_,_,rfl,zu.grow (by omega) (X9 _) (fun _ _ _=>rfl) q2 k2,?_⟩;simp only [av,aw,T.af,T.ag,T.ak,X2,X3,if_true,if_false,and_true,true_and]
  |false=>
   rw [hfin] at a1;apply W.run 20
   ·intro M;simp (disch:=first|decide+kernel|omega) only [lJ,qan,Aq,X2,cR,a1];rfl
   refine⟨rfl,_,_,rfl,rC,?_⟩;simp only [av,aw,T.af,T.ag,T.ak,X2,X3,if_true,if_false,and_true,true_and]
 ·rintro t D ⟨rD,g1,g3,g4,-⟩;show W ai _ _ _;have kD:=toK _ _ rD;have a2:aq ai D.get 103 (.pointer (some ⟨A.next,0+2,none⟩))= .ok (.int .u64 s.out):=(vB.kp kD).ld rfl ff rfl;obtain⟨b,bD,m1,m2,m3⟩:=rD;obtain⟨v1,E,b1,⟨e1,h1⟩,bE,kE⟩:=rJ bD hf.1 (by split<;>simp);have rE:zu A.next B.next C (vz s 0) E:=zu.grow m1 m2 m3 (by unfold vz;rw [ZC];simpa [gb] using bE) kE
  apply W.seq;apply W.a6 (e1) 20
  ·intro M hM;simp (disch:=first|decide+kernel|omega) only [lJ,qan,Aq,X2,g1,g4,iW,a2,h1];rfl
  show W ai _ _ _;have kE:=toK _ _ rE;have lx:=(hx.kp (kB.trans kE)).len;have aE:aq ai E.get 162 (.pointer (some ⟨A.next,0,none⟩))= .ok x:=(vB.kp kE).ld rfl j8 rfl;apply W.seq;apply W.seq;apply W.run 20
  ·intro M;simp (disch:=first|decide+kernel|omega) only [lJ,qan,Aq,X2,g1,cZ,aE,lx];rfl
  apply W.block;refine W.up s.arcs.length (fun i t F=>zu A.next B.next C (vz s i) F∧Sl t [(3,.pointer (some ⟨B.next,0,none⟩)),(4,.func (.func 219) ⟨[]⟩ ⟨[.pointer (some ⟨B.next,0,none⟩)]⟩),(16,x),(17,.int .i64 s.arcs.length),(18,.int .i64 i)]) ?_ (Yg _) ⟨rE,?_⟩
  ·rintro i t F hi ⟨rF,g3,g4,g16,g17,g18,-⟩;have kF:=toK _ _ rF;obtain⟨b,bF,m1,m2,m3⟩:=rF;have hpl:=MW s i hl;by_cases hlt:i<s.arcs.length
   ·have hsi:s.arcs[i]?=some s.arcs[i]:=X6 hlt;have hfa:=hf.2 _ (YQ hlt);have hkt:vz s (i+1)=vz s i++gb [(s.arcs[i]).byte.toNat]++gb [(s.arcs[i]).out]++gb [(s.arcs[i]).to]:=by
     unfold vz;rw [Nm hsi];simp only [Y1]
    obtain⟨q,q1,q2⟩:=(hx.kp (kB.trans kF)).at hsi;generalize s.arcs[i]=a at*;have sG:=EB (D:=F) (a:=a);have vG:=aF F 172 (cc a);have kG:=Kp.alloc F (aa 172 (cc a));have nG:(F.alloc (aa 172 (cc a))).next=F.next+1:=ae _ _
    have bG:=bF.al (aa 172 (cc a));generalize F.alloc (aa 172 (cc a))=G at sG vG kG nG bG;have hbF:b<F.next:=bF.lt (Ji s i)
    have hB:a.byte.toNat<18446744073709551616:=by have:=a.byte.toNat_lt;omega
    have hT:a.to<18446744073709551616:=by omega
    have cv1:=bu (tb:=ai) (s:=5) (d:=103) (k:=.u8) (n:=a.byte.toNat) (by rw [u5];rfl) ff (cL hB);have cv2:=bu (tb:=ai) (s:=3) (d:=103) (k:=.i64) (n:=a.to) (by rw [u3];rfl) ff (cL hT);have t1:=sf [a.byte.toNat];have t2:=sf [a.out];simp only [Yf,Ys] at t1 t2;obtain⟨v1,G1,b1,⟨e1,h1⟩,r1,k1⟩:=rJ bG hB (by omega);obtain⟨v2,G2,b2,⟨e2,h2⟩,r2,k2⟩:=rJ r1 hfa.1 (by rw [X'];omega);obtain⟨v3,G3,b3,⟨e3,h3⟩,r3,k3⟩:=rJ r2 hT (by rw [X',X'];omega);have n1:=k1.n;have n2:=k2.n;have i1:=k1.r;have i2:=k2.r;have V1:VB G1 172 F.next (.var 3) (cc a):=⟨by omega,vG.2.same (k1.g _ (by omega) (by omega) (by omega))⟩
    have V2:VB G2 172 F.next (.var 3) (cc a):=⟨by omega,V1.2.same (k2.g _ (by omega) (by omega) (by omega))⟩
    have l0:aq ai G.get 5 (.pointer (some ⟨F.next,0,none⟩))= .ok (.int .u8 (a.byte.toNat:Nat)):=vG.ld rfl u5 rfl;have l1:aq ai G1.get 103 (.pointer (some ⟨F.next,0+1,none⟩))= .ok (.int .u64 a.out):=V1.ld rfl ff rfl;have l2:aq ai G2.get 3 (.pointer (some ⟨F.next,0+2,none⟩))= .ok (.int .i64 a.to):=V2.ld rfl u3 rfl;apply W.a6 (e1+e2+e3) 20
    ·intro M hM;simp (disch:=first|decide+kernel|omega) only [Fz,lJ,qan,Aq,X2,g3,g4,g16,g17,g18,hlt,q1,q2,oe,au,sG,kx,qZ,jB,l0,l1,l2,cv1,cv2,h1,h2,h3];rfl
    refine⟨hlt,_,_,rfl,?_,?_⟩
    ·rw [hkt];exact zu.grow (F:=G) (b:=b) m1 (by omega) (fun y hy hb=>by rw [kG.2 y (by omega),m3 y hy hb]) r3 ((k1.trans k2).trans k3)
    ·simp only [av,aw,T.af,T.ag,T.ak,X2,X3,if_true,if_false,and_true,true_and,g3,g4,g16,g17]
   ·have e:i=s.arcs.length:=by omega
    subst e;have hk:vz s s.arcs.length=jZ s:=by
     unfold vz jZ uQ;rw [Yw,Y1,←D7];rfl
    have h0:=YM.2 (Ji s s.arcs.length);rw [hk] at bF hpl h0;obtain⟨G,⟨e1,h1⟩,nG,fG⟩:=DJ bF h0 (by omega);apply W.run 20
    ·intro M;simp (disch:=first|decide+kernel|omega) only [Fz,lJ,qan,Aq,X2,g17,g18];rfl
    apply W.seq;apply W.a6 (e1) 20
    ·intro M hM;simp (disch:=first|decide+kernel|omega) only [lJ,qan,Aq,X2,g3,h1];rfl
    apply W.run 20
    ·intro M;simp (disch:=first|decide+kernel|omega) only [lJ,qan,Aq,X2];rfl
    exact⟨by simp,rfl,_,(by simp only [qan,Aq,X2]<;>rfl),rfl,by show A.next≤G.next;omega,fun z hz=>by show G.get z=A.get z;rw [fG z (by omega),m3 z (by omega) (by omega),kC.2 z (by omega),kB.2 z hz]⟩
  ·simp only [av,aw,T.af,T.ag,T.ak,X2,X3,if_true,if_false,and_true,true_and,g3,g4]
theorem Hw:ai.bp 120=some (.map 9 3):=by kernel_rfl
theorem N1:ax ai 208 (pw b 0) 0= .ok (pw b 0):=by kernel_rfl
theorem MD:ax ai 208 (pw b 0) 1= .ok (pw b 1):=by kernel_rfl
def mc:List (List UInt8)→Nat→List MapEntry
 | [],_=>[]
 |n::ns,o=>⟨strOf n,.int .i64 o,o⟩::mc ns (o+1)
theorem y8 (w:List UInt8):∀(ns:List (List UInt8)) (o j:Nat),w∉ns→findF (strOf w) (mc ns o) j=some none
 | [],o,j,_=>rfl
 |n::ns,o,j,h=>by
  rw [Yp,not_or] at h;unfold mc findF;simp only [IQ,h.1,decide_false];exact y8 w ns (o+1) (j+1) h.2
theorem yW (w:List UInt8):∀(ns:List (List UInt8)) (o:Nat),mc (ns++[w]) o=mc ns o++[⟨strOf w,.int .i64 (o+ns.length:Nat),o+ns.length⟩]
 | [],o=>rfl
 |n::ns,o=>by
  rw [YT,mc,yW w ns (o+1),mc,YT,Yf,show o+1+ns.length=o+(ns.length+1) by omega]
variable {mk:Nat}
theorem Mh {ks:List (List UInt8)} {w:List UInt8} (h:A.get mk=some (.map (mc ks 0) ks.length)) (hw:w∉ks):
 fx ai A.get 120 (.map (some mk)) (strOf w) true= .ok (.tuple ⟨[.int .i64 (0:Nat),.bool false]⟩):=by
 have hk:ei ai 9 (strOf w)=true:=by unfold ei;rw [u9];rfl
 unfold fx;simp only [Hw,hk,cond_true,iB,h,R.aA,y8 w ks 0 0 hw,gN]
theorem Qk {ks:List (List UInt8)} {w:List UInt8} (h:A.get mk=some (.map (mc ks 0) ks.length)) (hw:w∉ks):
 cF ai A 120 (.map (some mk)) (strOf w) (.int .i64 (ks.length:Nat))= .ok (A.set mk (.map (mc (ks++[w]) 0) (ks++[w]).length)):=by
 have hk:ei ai 9 (strOf w)=true:=by unfold ei;rw [u9];rfl
 unfold cF;simp only [Hw,hk,cond_true,h,y8 w ks 0 0 hw];rw [yW,Yy,X'];rfl
def QB (C:Mem) (p mk:Nat) (ks:List (List UInt8)) (F:Mem):Prop:=∃b x rows,VB F 208 p (.var 2) [x,.map (some mk)]∧F.get mk=some (.map (mc ks 0) ks.length)∧az F 164 3 b rows x∧rows.length=ks.length∧(C.next≤b∧(ks=[]→x= .slice none 0 0)∧p≠mk∧p<C.next∧mk<C.next)∧C.next≤F.next∧∀z,z<C.next→z≠p→z≠mk→F.get z=C.get z
theorem QB.kp {F G:Mem} {ks:List (List UInt8)} (h:QB C p mk ks F) (k:Kp F G):QB C p mk ks G:=by
 obtain⟨b,x,rows,h1,h2,h3,h4,h5,h6,h7⟩:=h;exact⟨b,x,rows,h1.kp k,by rw [k.2 _ (by omega)];exact h2,h3.same k.1 (k.2 b),h4,h5,YC h6 k.1,fun z hz a b=>by rw [k.2 z (by omega),h7 z hz a b]⟩
theorem F7 {x:Value} {s:bj} (h:j' A s.arcs x):∀v∈cW x s,aJ v=true:=by
 obtain⟨b,h⟩:=h;intro v hv;simp only [cW,Yp,YH,or_false] at hv;rcases hv with rfl|rfl|rfl
 ·exact(az.dm h).2
 ·rfl
 ·rfl
noncomputable def jy:Code:=qaD.body.getD .skip
theorem Ql:qaD.body=some (.seq (sub jy [0]) (.seq (sub jy [1,0]) (.seq (sub jy [1,1,0]) (.seq (sub jy [1,1,1,0]) (.seq (sub jy [1,1,1,1,0]) (sub jy [1,1,1,1,1])))))):=by kernel_rfl
theorem TM:sub jy [1,1,1,0]= .seq (sub jy [1,1,1,0,0]) (sub jy [1,1,1,0,1]):=by kernel_rfl
theorem Ua:sub jy [1,1,1,0,1]= .cond (.tmp 20) (.seq (sub jy [1,1,1,0,1,0,0]) (.seq (sub jy [1,1,1,0,1,0,1,0]) (sub jy [1,1,1,0,1,0,1,1]))) (sub jy [1,1,1,0,1,1]):=by kernel_rfl
theorem Hi {ks:List (List UInt8)} {s:bj} {x:Value} (hR:QB C p mk ks A) (hx:j' A s.arcs x) (hf:Fit s) (hl:s.arcs.length≤256) (hn:jZ s∉ks) (hk:ks.length<1000000):
 ∃v A',bL ai 135 [pw p 0,.agg ⟨cW x s⟩] A v A'∧v= .int .i64 (ks.length:Nat)∧QB C p mk (ks++[jZ s]) A':=by
 refine cS (aB Tryz.func135) Ql (by rw [Tryz.ntmps135];simp) (by kernel_rfl) (by kernel_rfl) ?_;have kB:=Kp.alloc A (aa 164 (cW x s));have vB:=aF A 164 (cW x s);have h1c:=F7 hx;obtain⟨d,hd1,hd2⟩:=bA (t:=164) (p:=true) (by kernel_rfl);apply W.seq;apply W.run 20
 ·intro M;simp (disch:=first|decide+kernel|omega) only [jy,qaD,Aq,X2,au];rfl
 show W ai _ _ _;have nB:(A.alloc (aa 164 (cW x s))).next=A.next+1:=ae _ _
 generalize A.alloc (aa 164 (cW x s))=B at kB vB nB;have lB:aq ai B.get 164 (pw A.next 0)= .ok (.agg ⟨cW x s⟩):=aQ hd1 hd2 (l:=cW x s) mQ vB.2;obtain⟨v,D,⟨g1,h1⟩,rfl,kD⟩:=P_ (hx.kp kB) hf hl;have hRD:=(hR.kp kB).kp kD;have vD:=vB.kp kD;have lD:aq ai D.get 164 (pw A.next 0)= .ok (.agg ⟨cW x s⟩):=aQ hd1 hd2 (l:=cW x s) mQ vD.2;have nD:=kD.1;obtain⟨b,y,rows,q1,q2,q3,q4,⟨q5,q6,q7,q8,q9⟩,q10,q11⟩:=id hRD;have lm:aq ai D.get 120 (pw p 1)= .ok (.map (some mk)):=q1.ld rfl Hw rfl;have ly:aq ai D.get 102 (pw p 0)= .ok y:=q1.ld rfl fX rfl;have lx:=az.len (tb:=ai) (t:=102) q3 fX;rw [q4] at lx;have lk:=Mh q2 hn;have up:=Qk q2 hn;generalize hE:D.set mk (.map (mc (ks++[jZ s]) 0) (ks++[jZ s]).length)=E at up;have nE:E.next=D.next:=by rw [←hE];exact aX _ _ _
 have fE:∀z,z≠mk→E.get z=D.get z:=fun z hz=>by rw [←hE,eB,if_neg hz]
 have gE:E.get mk=some (.map (mc (ks++[jZ s]) 0) (ks++[jZ s]).length):=by rw [←hE,eB,if_pos rfl]
 have hmD:∀(e:TypeId) (z:Nat) (k:Kd) (l:List Value),VB D e z k l→z≠mk:=fun e z k l h=>h.zi q2
 have lE:aq ai E.get 164 (pw A.next 0)= .ok (.agg ⟨cW x s⟩):=aQ hd1 hd2 (l:=cW x s) mQ (vD.2.same (fE _ (hmD _ _ _ _ vD)));have qE:=q1.2.same (fE p q7);have lyE:aq ai E.get 102 (pw p 0)= .ok y:=bf fX rfl qE rfl;obtain⟨ti,t1,t2,t3⟩:=Sn;have q3E:az (E.alloc (aa 164 (cW x s))) 164 3 b rows y:=q3.same (by rw [ae];omega) fun h=>by rw [aH (by omega),fE b (by omega)]
 obtain⟨y',F,happ,hs3,hn3,hf3⟩:=az.append (tb:=ai) (st:=102) (xt:=102) q3E fX fX RW t1 t2 t3 (by omega) (by omega) (by omega) (aD E _) rfl h1c;rw [ae] at hs3 hn3 hf3;have hpb:p=b→y= .slice none 0 0:=fun e=>by omega
 have qF:dD F 208 p (.var 2) [y,.map (some mk)]:=qE.same (by rw [hf3 p hpb (by omega),aH (by omega)]);obtain⟨G,sG,vG,nG,fG⟩:=a_ (tb:=ai) (o:=0) (v:=y') H7 qF (by simp) (az.dm hs3).1 (az.dm hs3).2;apply W.seq;apply W.a6 (g1) 20
 ·intro M hM;simp (disch:=first|decide+kernel|omega) only [jy,qaD,Aq,X2,lB,h1];rfl
 apply W.seq;apply W.run 20
 ·intro M;simp (disch:=first|decide+kernel|omega) only [jy,qaD,Aq,X2,aG,a8,MD,lm,eO,lk,X8,X7];rfl
 show W ai _ _ _;rw [TM];apply W.seq;apply W.seq;apply W.run 20
 ·intro M;simp (disch:=first|decide+kernel|omega) only [jy,qaD,Aq,X2];rfl
 show W ai _ _ _;rw [Ua];refine W.cond (p:=true) rfl (fun _=>?_) (fun h=>by cases h);apply W.seq;apply W.run 20
 ·intro M;simp (disch:=first|decide+kernel|omega) only [jy,qaD,Aq,X2,aG,a8,N1,ly,lx];rfl
 apply W.seq;apply W.run 20
 ·intro M;simp (disch:=first|decide+kernel|omega) only [jy,qaD,Aq,X2,aG,a8,MD,lm,dL,up];rfl
 apply W.run 20
 ·intro M;simp (config:={maxSteps:=4000000}) (disch:=first|decide+kernel|omega|simp only [Wq,X2]) only [jy,qaD,Aq,X5,reduceIte,X2,X3,aG,a8,N1,lyE,lE,RM,happ,sG,Fq,aC []];rfl
 apply W.seq;apply W.run 20
 ·intro M;simp (disch:=first|decide+kernel|omega) only [jy,qaD,Aq,X2];rfl
 apply W.run 20
 ·intro M;simp (disch:=first|decide+kernel|omega) only [jy,qaD,Aq,X2];rfl
 have hmF:mk≠p:=Ne.symm q7;have hFk:∀z,z<D.next→z≠p→z≠mk→z≠b→G.get z=D.get z:=fun z h1 h2 h3 h4=>by rw [fG z h2,hf3 z (fun e=>absurd e h4) (by omega),aH (by omega),fE z h3]
 have hbk:mk≠b:=by omega
 refine⟨by simp,rfl,_,(by simp only [qaD,Aq,X2]<;>rfl),rfl,⟨E.next+1,y',_,⟨by show p<G.next;omega,vG⟩,?_,hs3.same (by show F.next≤G.next;omega) (fun _=>fG _ (by omega)),by rw [X',X',q4];rfl,⟨by omega,fun h=>by simp at h,q7,q8,q9⟩,by show C.next≤G.next;omega,fun z hz h2 h3=>?_⟩⟩
 ·show G.get mk=_;rw [fG mk hmF,hf3 mk (fun e=>absurd e hbk) (by omega),aH (by omega),gE]
 ·show G.get z=_;rw [hFk z (by omega) h2 h3 (by omega),q11 z hz h2 h3]
noncomputable def j9:Code:=ZJ.body.getD .skip
noncomputable def dz:Code:=sub j9 [1,1,0,1,0,0]
theorem QL:ZJ.body=some (.seq (sub j9 [0]) (.seq (sub j9 [1,0]) (.seq (.seq (sub j9 [1,1,0,0]) (.block 0 (.loop dz))) (.seq (sub j9 [1,1,1,0]) (.seq (sub j9 [1,1,1,1,0]) (sub j9 [1,1,1,1,1])))))):=by kernel_rfl
theorem Kw:dz=(.seq (sub dz [0]) (.seq (sub dz [1,0]) (.seq (.block 1 (.seq (sub dz [1,1,0,0,0]) (.seq (sub dz [1,1,0,0,1,0]) (.seq (sub dz [1,1,0,0,1,1,0]) (.block 2 (.rangeFunc (.tmp 32) #[33,34] (sub dz [1,1,0,0,1,1,1,0,0]) (sub dz [1,1,0,0,1,1,1,0,1]))))))) (sub dz [1,1,1])))):=by kernel_rfl
noncomputable def f_ (t:T Value) (d:Nat):gI:=oP t 62 [33,34] (sub dz [1,1,0,0,1,1,1,0,0]) (sub dz [1,1,0,0,1,1,1,0,1]) d
def Cj (o:bj→Int) (w:Int→Int→Nat→Int) (M:List bj) (i:Nat) (s:bj) (ab lp:Nat) (x:Value) (L:gI) (j:Nat) (D:Mem):Prop:=
 az D 3 1 ab (((jX o w zI M i).set i (jq o w zI (di o w zI (M.take i)) s j)).map lA) x∧D.get lp=some (.loop L)∧lp<D.next
variable {M:List bj}
theorem JN {o:bj→Int} {w:Int→Int→Nat→Int} {s:bj} {ab lp:Nat} {x:Value} {L:gI} (j:Nat) (D E:Mem) (h:Cj o w M i s ab lp x L j D) (k:Kp D E):Cj o w M i s ab lp x L j E:=
 ⟨h.1.same k.1 (k.2 ab),by rw [k.2 _ h.2.2];exact h.2.1,Yt h.2.2 k.1⟩
def B6 (fo:FuncId) (o:bj→Int):Prop:=∀(D:Mem) (x:Value) (s:bj),∃E,bL ai fo [.agg ⟨cW x s⟩] D (rU (o s)) E∧Kp D E
def sk (fw:FuncId) (o:bj→Int) (w:Int→Int→Nat→Int) (M:List bj):Prop:=∀(D:Mem) (i j:Nat) (s:bj) (a:cO),M[i]?=some s→s.arcs[j]?=some a→
 ∃E,bL ai fw [rU (jq o w zI (di o w zI (M.take i)) s j),rU ((di o w zI (M.take i)).getD a.to zI),.int .u64 a.out] D (rU (jq o w zI (di o w zI (M.take i)) s (j+1))) E∧Kp D E
variable {fw:FuncId} {B:Mem} {t:T Value} {d:Nat}
theorem TP {o:bj→Int} {w:Int→Int→Nat→Int} {a lp:Nat} {s:bj} {x:Value} (hW:sk fw o w M) (hi:M[i]?=some s) (ht:∀a∈s.arcs,a.to<i)
 (v7:VB B 300 (a+3) (.var 1) [x]) (v8:VB B 3 p (.var 1) [.int .i64 i]) (v5:VB B 255 (a+1) (.var 1) [.func (.func fw) ⟨[]⟩ ⟨[]⟩]) (hp:a+3<p∧p<lp∧lp<B.next)
 (hs:Sl t [(5,pV (a+1)),(7,pV (a+3)),(8,pV p)]):NZ B (a+2) lp s (Cj o w M i s (a+2) lp x (f_ t d)):=by
 rintro j c D hj ⟨hA,hL,hlt⟩ hn hf;obtain⟨g5,g7,g8,-⟩:=hs;obtain⟨p1,p2,p3⟩:=hp;have hil:=(X_.1 hi).1;have hto:=ht c (YF hj);have hrl:=sW o w zI (i:=i) (M:=M) (by omega);have sE:aW ai (D.alloc (aa 305 [.int .i64 (0:Nat),.int .u64 (0:Nat)])) 305 (pw D.next 0) (DC c)= .ok (D.alloc (aa 305 [.int .i64 c.to,.int .u64 c.out])):=bn (by kernel_rfl) rfl rfl (by simp) (by simp [aJ]);have z305:b7 ai 305= .ok (.agg ⟨[.int .i64 (0:Nat),.int .u64 (0:Nat)]⟩):=by kernel_rfl
 have f0:∀b,ax ai 305 (pw b 0) 0= .ok (pw b 0):=fun b=>by kernel_rfl
 have f1:∀b,ax ai 305 (pw b 0) 1= .ok (pw b 1):=fun b=>by kernel_rfl
 have kE:=Kp.alloc D (aa 305 [.int .i64 c.to,.int .u64 c.out]);have vE:=aF D 305 [.int .i64 c.to,.int .u64 c.out];have nE:(D.alloc (aa 305 [.int .i64 c.to,.int .u64 c.out])).next=D.next+1:=ae _ _
 generalize D.alloc (aa 305 [.int .i64 c.to,.int .u64 c.out])=E at sE kE vE nE;have hLE:E.get lp=some (.loop (f_ t d)):=by rw [kE.2 _ hlt];exact hL
 generalize hF:E.set lp (.loop {f_ t d with state:=.busy})=F;have nF:F.next=E.next:=by rw [←hF];exact aX _ _ _
 have fF:∀z,z≠lp→F.get z=E.get z:=fun z hz=>by rw [←hF,aL,if_neg hz]
 have hLF:F.get lp=some (.loop {f_ t d with state:=.busy}):=by rw [←hF,aL,if_pos rfl]
 have hBF:∀z,z<B.next→z≠a+2→z≠lp→F.get z=B.get z:=fun z hz h1 h2=>by rw [fF z h2,kE.2 z (by omega),hf z hz h1 h2]
 have hAF:=hA.same (A':=F) (by omega) fun hlt=>by rw [fF _ (by omega),kE.2 _ hlt]
 obtain⟨G,⟨g,hg⟩,kG⟩:=hW F i j s c hi hj;have keep:∀e z k l,VB B e z k l→z≠a+2→z≠lp→VB F e z k l:=fun e z k l h h1 h2=>⟨by have:=h.1;omega,h.2.same (hBF z h.1 h1 h2)⟩
 have w7:=keep _ _ _ _ v7 (by omega) (by omega);have w8:=keep _ _ _ _ v8 (by omega) (by omega);have w5:=keep _ _ _ _ v5 (by omega) (by omega);have l7:∀G,Kp F G→aq ai G.get 300 (pw (a+3) 0)= .ok x:=fun G h=>(w7.kp h).ld rfl Kn rfl
 have l8:∀G,Kp F G→aq ai G.get 3 (pw p 0)= .ok (.int .i64 i):=fun G h=>(w8.kp h).ld rfl u3 rfl
 have l5:aq ai F.get 255 (pw (a+1) 0)= .ok (.func (.func fw) ⟨[]⟩ ⟨[]⟩):=by
  obtain⟨d,hd1,hd2⟩:=bA (t:=255) (p:=false) (by kernel_rfl);exact w5.ld rfl hd1 hd2
 have r7:=l7 F (Kp.refl _);have r8:=l8 F (Kp.refl _);have r7':=l7 G kG;have r8':=l8 G kG;have vF:VB F 305 D.next (.var 2) [.int .i64 c.to,.int .u64 c.out]:=⟨by omega,vE.2.same (fF _ (by omega))⟩
 have e0:aq ai F.get 3 (pw D.next 0)= .ok (.int .i64 c.to):=vF.ld rfl u3 rfl;have e1:aq ai F.get 103 (pw D.next 1)= .ok (.int .u64 c.out):=vF.ld rfl ff rfl;have i1:=Jc hAF (i:=i) (by rw [YG];omega);have i2:=Jc hAF (i:=c.to) (by rw [YG];omega);have d1:=T1 hAF (i:=i) (by rw [Zn,if_pos rfl,if_pos (by omega)]);have d2:=T1 hAF (i:=c.to) (I0 o w zI (by omega) hto _);have hAG:=hAF.same kG.1 (kG.2 _);obtain⟨H,sH,hAH,nH,fH⟩:=Vp (v:=jq o w zI (di o w zI (M.take i)) s (j+1)) hAG (i:=i) (by rw [YG];omega);rw [List.set_set] at hAH;have nG:=kG.1;have hLH:H.get lp=some (.loop {f_ t d with state:=.busy}):=by rw [fH _ (by omega),kG.2 _ (by omega)];exact hLF
 have sx:cD 100 x x=true:=(az.Ai (by omega) hAF).self 99;have si:=eg .i64 i rfl;simp only [pV] at g5 g7 g8;have hq:∃C,(∃g,∀N,g≤N→bg ai (exec ai N) (.round lp [.int .u8 (c.byte.toNat:Nat),DC c]) D= .ok (.val (.bool true) C))∧C=H.set lp (.loop (f_ t d)):=by
  refine mI hL (t:=(t.set 33 (.int .u8 (c.byte.toNat:Nat))).set 34 (DC c)) rfl ?_;show W ai (sub dz [1,1,0,0,1,1,1,0,0]) ⟨_,62,[],D,some lp⟩ _;apply W.run 20
  ·intro M;simp (disch:=first|decide+kernel|omega) only [dz,j9,ZJ,Aq,X2,z305,au,sE];rfl
  refine⟨rfl,_,hLE,rfl,?_⟩;show W ai (sub dz [1,1,0,0,1,1,1,0,1]) ⟨_,62,[],E.set lp (.loop {f_ t d with state:=.busy}),some lp⟩ _;rw [hF];apply W.a6 (g) 20
  ·intro M hM;simp (config:={maxSteps:=4000000}) (disch:=first|decide+kernel|omega|simp only [Wq,X2]) only [dz,j9,ZJ,Aq,X5,reduceIte,X2,X3,g5,g7,g8,r7,r8,r7',r8',l5,f0,f1,e0,e1,i1,i2,d1,d2,hg,sH,sx,si,Fq,aC [(0,14),(1,14)]];rfl
  exact⟨rfl,rfl,_,hLH,rfl⟩
 obtain⟨C,hc,rfl⟩:=hq;have fr:∀z,z≠lp→(H.set lp (.loop (f_ t d))).get z=H.get z:=fun z hz=>by rw [aL,if_neg hz]
 have nr:(H.set lp (.loop (f_ t d))).next=H.next:=aX _ _ _
 refine⟨_,hc,⟨hAH.same (by omega) fun _=>fr _ (by omega),by rw [aL,if_pos rfl],by omega⟩,by omega,fun z hz h1 h2=>?_⟩;rw [fr z h2,fH z h1,kG.2 z (by omega),fF z h2,kE.2 z hz]
def GI (o:bj→Int) (w:Int→Int→Nat→Int) (M:List bj) (B:Mem) (a:Nat) (x:Value) (i:Nat) (D:Mem) (ds:List Nat):Prop:=
 az D 3 1 (a+2) ((jX o w zI M i).map lA) x∧(∀z,z<B.next→z≠a+2→D.get z=B.get z)∧B.next≤D.next∧ds.Nodup∧∀d∈ds,B.next≤d∧d<D.next∧D.get d=some .defd
theorem W_:b7 ai 300= .ok (.slice none 0 0):=by kernel_rfl
variable {y:Value}
theorem Tt {fo:FuncId} {o:bj→Int} {w:Int→Int→Nat→Int} {D:Mem} {k x:Value} {a:Nat} {s:bj} {ds:List Nat} (h:eX A M y) (hg:dM M) (hl:M.length<1000000) (hO:B6 fo o) (hW:sk fw o w M) (hi:M[i]?=some s)
 (hB:Kp A B) (ha:A.next=a∧B.next=a+3+1) (v3:VB B 105 a (.var 2) [y,k]) (v5:VB B 255 (a+1) (.var 1) [.func (.func fw) ⟨[]⟩ ⟨[]⟩]) (v7:VB B 300 (a+3) (.var 1) [x]) (hR:GI o w M B a x i D ds)
 (hs:Sl t [(1,.func (.func fo) ⟨[]⟩ ⟨[]⟩),(3,pV a),(5,pV (a+1)),(6,.int .i64 (0:Nat)),(7,pV (a+3)),(17,y),(18,.int .i64 M.length),(19,.int .i64 i)]):
 W ai dz ⟨t,62,ds,D,none⟩ fun e s'=>e= .nrm∧∃t' D' d',s'=⟨t',62,d',D',none⟩∧GI o w M B a x (i+1) D' d'∧
  Sl t' [(1,.func (.func fo) ⟨[]⟩ ⟨[]⟩),(3,pV a),(5,pV (a+1)),(6,.int .i64 (0:Nat)),(7,pV (a+3)),(17,y),(18,.int .i64 M.length),(19,.int .i64 (i+1:Nat))]:=by
 obtain⟨hA,hf,hn,hnd,hds⟩:=hR;obtain⟨g1,g3,g5,g6,g7,g17,g18,g19,-⟩:=hs;obtain⟨ha1,ha2⟩:=ha;have hil:=(X_.1 hi).1;obtain⟨-,k2,k3,-,-⟩:=hg i s hi;have hfew:=mU (hg i s hi);have hrl:=sW o w zI (i:=i) (M:=M) (by omega);have kAD:Kp A D:=⟨by omega,fun z hz=>by rw [hf z (by omega) (by omega),hB.2 z hz]⟩;obtain⟨xs,p,q,i1,i2,hx,i4⟩:=(h.kp kAD).get hi;have i5:=(i4 D (Kp.refl _)).1;have k1:=Kp.alloc D (aa 3 [.int .i64 (0:Nat)]);have n1:(D.alloc (aa 3 [.int .i64 (0:Nat)])).next=D.next+1:=ae _ _
 have n2:((D.alloc (aa 3 [.int .i64 (0:Nat)])).alloc (aa 164 [.slice none 0 0,.bool false,.int .u64 (0:Nat)])).next=D.next+2:=by rw [ae,n1]
 have w1:=(aF D 3 [.int .i64 (0:Nat)]).kp (Kp.alloc _ (aa 164 [.slice none 0 0,.bool false,.int .u64 (0:Nat)]));have w2:=aF (D.alloc (aa 3 [.int .i64 (0:Nat)])) 164 [.slice none 0 0,.bool false,.int .u64 (0:Nat)];have k2':=k1.trans (Kp.alloc _ (aa 164 [.slice none 0 0,.bool false,.int .u64 (0:Nat)]));rw [n1] at w2;obtain⟨E1,sE1,u1,m1,fE1⟩:=a_ (tb:=ai) (t:=3) (o:=0) (v:=.int .i64 i) Q5 w1.2 (by simp) rfl rfl;obtain⟨E,sE,u2,m2,fE⟩:=bx (tb:=ai) (t:=164) (l':=cW xs s) (by exact mQ) (w2.2.same (fE1 _ (by omega))) rfl (by simp) (F7 hx);have hzero3:b7 ai 3= .ok (.int .i64 (0:Nat)):=gN;have fED:∀z,z<D.next→E.get z=D.get z:=fun z hz=>by rw [fE z (by omega),fE1 z (by omega),k2'.2 z hz]
 have kDE:Kp D E:=⟨by omega,fED⟩;have V8:VB E 3 D.next (.var 1) [.int .i64 i]:=⟨by omega,u1.same (fE _ (by omega))⟩
 have V9:VB E 164 (D.next+1) (.var 3) (cW xs s):=⟨by omega,u2⟩;have keep:∀e z k l,VB B e z k l→z≠a+2→VB E e z k l:=fun e z k l h h1=>⟨by have:=h.1;omega,h.2.same (by rw [fED z (by have:=h.1;omega),hf z h.1 h1])⟩
 have V7:=keep _ _ _ _ v7 (by omega);have V3:=keep _ _ _ _ v3 (by omega);have V5:=keep _ _ _ _ v5 (by omega);have hAE:=hA.same kDE.1 (kDE.2 _);obtain⟨F,⟨gf,hgf⟩,kF⟩:=hO E xs s;obtain⟨d,hd1,hd2⟩:=bA (t:=164) (p:=true) (by kernel_rfl);have l9:aq ai E.get 164 (pw (D.next+1) 0)= .ok (.agg ⟨cW xs s⟩):=aQ hd1 hd2 (l:=cW xs s) mQ V9.2;have l7:∀G,Kp E G→aq ai G.get 300 (pw (a+3) 0)= .ok x:=fun G h=>(V7.kp h).ld rfl Kn rfl
 have l8:∀G,Kp E G→aq ai G.get 3 (pw D.next 0)= .ok (.int .i64 i):=fun G h=>(V8.kp h).ld rfl u3 rfl
 have r7:=l7 E (Kp.refl _);have r8:=l8 E (Kp.refl _);have r7':=l7 F kF;have r8':=l8 F kF;have ix:=Jc hAE (i:=i) (by omega);obtain⟨G,sG,hAG,nG,fG⟩:=Vp (v:=o s) (hAE.same kF.1 (kF.2 _)) (i:=i) (by omega);have sx:cD 100 x x=true:=(az.Ai (by omega) hA).self 99;have si:=eg .i64 i rfl;have nF:=kF.1;have nE:E.next=D.next+2:=by omega
 have fGE:∀z,z<E.next→z≠a+2→G.get z=E.get z:=fun z hz h=>by rw [fG z h,kF.2 z hz]
 have lG8:aq ai G.get 3 (pw D.next 0)= .ok (.int .i64 i):=bf u3 rfl (V8.2.same (fGE _ (by omega) (by omega))) rfl;obtain⟨d2,hd3,hd4⟩:=bA (t:=105) (p:=true) (by kernel_rfl);have lG3:aq ai G.get 105 (pw a 0)= .ok (.agg ⟨[y,k]⟩):=aQ hd3 hd4 (l:=[y,k]) eD (V3.2.same (fGE _ (by omega) (by omega)));obtain⟨gw,hgw⟩:=Dr (A:=G) (y:=y) (k:=k) (n:=i);have x1:=(aF G 105 [y,k]).kp (Kp.alloc _ (aa 3 [.int .i64 i]));have x2:=aF (G.alloc (aa 105 [y,k])) 3 [.int .i64 i];have y1:(G.alloc (aa 105 [y,k])).next=G.next+1:=ae _ _
 have y2:((G.alloc (aa 105 [y,k])).alloc (aa 3 [.int .i64 i])).next=G.next+2:=by rw [ae,y1]
 have kH:=(Kp.alloc G (aa 105 [y,k])).trans (Kp.alloc _ (aa 3 [.int .i64 i]));rw [y1] at x2;generalize (G.alloc (aa 105 [y,k])).alloc (aa 3 [.int .i64 i])=H at hgw x1 x2 y2 kH;simp only [pV] at g3 g5 g7 hgw;rw [Kw];apply W.seq;apply W.run 20
 ·intro M;simp (disch:=first|decide+kernel|omega) only [dz,j9,ZJ,Aq,X2,g18,g19,hil];rfl
 apply W.seq;apply W.run 20
 ·intro M;simp (disch:=first|decide+kernel|omega) only [dz,j9,ZJ,Aq,X2];rfl
 apply W.seq;apply W.block;apply W.seq;apply W.run 20
 ·intro M;simp (disch:=first|decide+kernel|omega) only [dz,j9,ZJ,Aq,X2,g17,g19,i1,i5,hzero3,jr,au,dQ,n1,sE1,sE];rfl
 apply W.seq;apply W.a6 (gf) 20
 ·intro M hM;simp (config:={maxSteps:=4000000}) (disch:=first|decide+kernel|omega|simp only [Wq,X2]) only [dz,j9,ZJ,Aq,X5,reduceIte,X2,X3,g1,g7,r7,r8,l9,hgf,ix,r7',r8',sx,si,sG,Fq,aC [(0,4),(1,4)]];rfl
 apply W.seq;apply W.a6 (gw) 20
 ·intro M hM;simp (disch:=first|decide+kernel|omega) only [dz,j9,ZJ,Aq,X2,g3,lG3,lG8,hgw];rfl
 apply W.block;generalize ht0:T.set _ _ _=t0;have hsl:Sl t0 [(1,.func (.func fo) ⟨[]⟩ ⟨[]⟩),(3,pV a),(5,pV (a+1)),(6,.int .i64 (0:Nat)),(7,pV (a+3)),(8,pV D.next),(17,y),(18,.int .i64 M.length),(19,.int .i64 i),(32,.func (.func 233) ⟨[]⟩ ⟨[pV G.next,pV (G.next+1)]⟩)]:=by
  rw [←ht0];simp only [av,aw,T.af,T.ag,T.ak,X2,X3,if_true,if_false,and_true,true_and,g1,g3,g5,g6,g7,g17,g18,g19,pV]
 clear ht0;obtain⟨h1,h3,h5,h6,h7,h8,h17,h18,h19,h32,-⟩:=hsl;have kJ:=(Kp.alloc H .defd).trans (Kp.alloc (H.alloc .defd) (.loop (f_ t0 H.next)));have nJ1:(H.alloc .defd).next=H.next+1:=ae _ _
 have nJ:((H.alloc .defd).alloc (.loop (f_ t0 H.next))).next=H.next+2:=by rw [ae,nJ1]
 have jL:((H.alloc .defd).alloc (.loop (f_ t0 H.next))).get (H.next+1)=some (.loop (f_ t0 H.next)):=by have:=aD (H.alloc .defd) (.loop (f_ t0 H.next));rwa [nJ1] at this
 have jM:((H.alloc .defd).alloc (.loop (f_ t0 H.next))).get H.next=some .defd:=by rw [(Kp.alloc (H.alloc .defd) _).2 _ (by omega)];exact aD H .defd
 generalize hJ:(H.alloc .defd).alloc (.loop (f_ t0 H.next))=J at kJ nJ jL jM;have kGJ:=kH.trans kJ;have toJ:∀e z k l,VB E e z k l→z≠a+2→VB J e z k l:=fun e z k l h h1=>VB.kp (A:=G) ⟨by have:=h.1;omega,h.2.same (fGE z h.1 h1)⟩ kGJ
 have hJA:Cj o w M i s (a+2) (H.next+1) x (f_ t0 H.next) 0 J:=⟨hAG.same kGJ.1 (kGJ.2 _),jL,by omega⟩;have fJD:∀z,z<D.next→z≠a+2→J.get z=D.get z:=fun z hz h=>by rw [kGJ.2 z (by omega),fGE z (by omega) h,fED z hz]
 have kAJ:Kp A J:=⟨by omega,fun z hz=>by rw [fJD z (by omega) (by omega),kAD.2 z hz]⟩;obtain⟨v,C,hC,⟨c1,c2,c3⟩,nC,fC⟩:=Es (A:=A) (B:=J) (q:=G.next) (ab:=a+2) (lp:=H.next+1) (k:=k) h hi k3 k2 hfew hl kAJ (x1.kp kJ) (x2.kp kJ) ⟨by omega,by omega,by omega,by omega,by omega,by omega,by omega,by omega⟩ JN
  (TP hW hi k3 (toJ _ _ _ _ V7 (by omega)) (toJ _ _ _ _ V8 (by omega)) (toJ _ _ _ _ V5 (by omega)) ⟨by omega,by omega,by omega⟩ ⟨h5,h7,h8,trivial⟩) hJA
 refine W.Hv (fid:=233) (first:=[]) (capt:=[pV G.next,pV (G.next+1)]) (v:=v) (A':=C) (r:=f_ t0 H.next) (e:=.nrm) (by simp only [ev,h32]) (by show bL ai 233 _ ((H.alloc .defd).alloc (.loop (f_ t0 H.next))) v C;rw [hJ];exact hC) c2 (by simp [f_,oP]) (.inl ⟨rfl,rfl⟩) ?_;have c1:az C 3 1 (a+2) ((jX o w zI M (i+1)).map lA) x:=by rw [←Aa o w zI hi];exact c1
 generalize hK:C.set (H.next+1) (.loop {f_ t0 H.next with state:=.exhausted})=K;have nK:K.next=C.next:=by rw [←hK];exact aX _ _ _
 have fK:∀z,z≠H.next+1→K.get z=C.get z:=fun z hz=>by rw [←hK,aL,if_neg hz]
 show W ai (sub dz [1,1,1]) _ _;apply W.run 20
 ·intro M;simp (disch:=first|decide+kernel|omega) only [dz,j9,ZJ,Aq,X2,h19];rfl
 have hJK:∀z,z<J.next→z≠a+2→z≠H.next+1→K.get z=J.get z:=fun z hz h1 h2=>by rw [fK z h2,fC z hz h1 h2]
 refine⟨rfl,_,K,_,rfl,⟨c1.same (by omega) fun _=>fK _ (by omega),fun z hz h1=>by rw [hJK z (by omega) h1 (by omega),fJD z (by omega) h1,hf z hz h1],by omega,qbc.2 ⟨fun hm=>?_,hnd⟩,fun d hd=>?_⟩,?_⟩
 ·have:=hds _ hm;omega
 ·rcases Yp.1 hd with rfl|hd
  ·exact⟨by omega,by omega,by rw [hJK _ (by omega) (by omega) (by omega),jM]⟩
  ·obtain⟨e1,e2,e3⟩:=hds d hd;exact⟨e1,by omega,by rw [hJK _ (by omega) (by omega) (by omega),fJD _ e2 (by omega),e3]⟩
 ·simp only [av,aw,T.af,T.ag,T.ak,X2,X3,if_true,if_false,and_true,true_and,h1,h3,h5,h6,h7,h17,h18,pV]
theorem yE {fo:FuncId} {o:bj→Int} {w:Int→Int→Nat→Int} {k:Value} (h:eX A M y) (hg:dM M) (hM:M≠ []) (hl:M.length<1000000) (hO:B6 fo o) (hW:sk fw o w M):
 ∃v A',bL ai 171 [.agg ⟨[y,k]⟩,.func (.func fo) ⟨[]⟩ ⟨[]⟩,.func (.func fw) ⟨[]⟩ ⟨[]⟩] A v A'∧v=rU ((di o w zI M).getD (M.length-1) zI)∧Kp A A':=by
 refine eE (aB Tryz.func171) QL (by rw [Tryz.ntmps171];simp) (by kernel_rfl) (by kernel_rfl) ?_;generalize ha:A.next=a
 have hpos:=YM.2 hM;have n1:(A.alloc (aa 105 [y,k])).next=a+1:=by rw [ae,ha]
 have n2:((A.alloc (aa 105 [y,k])).alloc (aa 255 [.func (.func fw) ⟨[]⟩ ⟨[]⟩])).next=a+2:=by rw [ae,n1]
 have kB:=(Kp.alloc A (aa 105 [y,k])).trans (Kp.alloc _ (aa 255 [.func (.func fw) ⟨[]⟩ ⟨[]⟩]));have v3:=(aF A 105 [y,k]).kp (Kp.alloc _ (aa 255 [.func (.func fw) ⟨[]⟩ ⟨[]⟩]));have v5:=aF (A.alloc (aa 105 [y,k])) 255 [.func (.func fw) ⟨[]⟩ ⟨[]⟩];rw [ha] at v3;rw [n1] at v5;apply W.seq;apply W.run 20
 ·intro M;simp (disch:=first|decide+kernel|omega) only [j9,ZJ,Aq,X2,au,dx,ha,n1];rfl
 show W ai _ _ _;generalize (A.alloc (aa 105 [y,k])).alloc (aa 255 [.func (.func fw) ⟨[]⟩ ⟨[]⟩])=B at*;have hS:=h.kp kB;have lB:aq ai B.get 102 (pw a 0)= .ok y:=v3.ld rfl fX rfl;have cz:=hS.len;have mk:=W4 (n:=M.length) (by omega);have nB:B.next=a+2:=by assumption
 have n4:(B.alloc (aa 3 ((YP M.length zI).map lA).flatten)).next=a+3:=by rw [ae,nB]
 have kC:=(Kp.alloc B (aa 3 ((YP M.length zI).map lA).flatten)).trans (Kp.alloc _ (aa 300 [.slice (some ⟨a+2,0,none⟩) M.length (2*M.length)]));have vr:=(aF B 3 ((YP M.length zI).map lA).flatten).kp (Kp.alloc _ (aa 300 [.slice (some ⟨a+2,0,none⟩) M.length (2*M.length)]));have v7:=aF (B.alloc (aa 3 ((YP M.length zI).map lA).flatten)) 300 [.slice (some ⟨a+2,0,none⟩) M.length (2*M.length)];have sC:aW ai ((B.alloc (aa 3 ((YP M.length zI).map lA).flatten)).alloc (aa 300 [.slice none 0 0])) 300 (pw ((B.alloc (aa 3 ((YP M.length zI).map lA).flatten)).next) 0) (.slice (some ⟨a+2,0,none⟩) M.length (2*M.length))= .ok _:=bn (l':=[.slice (some ⟨a+2,0,none⟩) M.length (2*M.length)]) Pj rfl rfl (by simp) (by simp [aJ]);have nC:((B.alloc (aa 3 ((YP M.length zI).map lA).flatten)).alloc (aa 300 [.slice (some ⟨a+2,0,none⟩) M.length (2*M.length)])).next=a+3+1:=by rw [ae,n4]
 rw [n4] at v7 sC;rw [nB] at vr;apply W.seq;apply W.run 20
 ·intro M;simp (disch:=first|decide+kernel|omega) only [j9,ZJ,Aq,X2,dc,lB,cz,mk,nB,W_,n4,sC];rfl
 show W ai _ _ _;generalize (B.alloc (aa 3 ((YP M.length zI).map lA).flatten)).alloc (aa 300 [.slice (some ⟨a+2,0,none⟩) M.length (2*M.length)])=C at*;have kAC:=kB.trans kC;have hSC:=h.kp kAC;have v3:=v3.kp kC;have v5:=v5.kp kC;have lC:aq ai C.get 102 (pw a 0)= .ok y:=v3.ld rfl fX rfl;have lenC:=hSC.len;have r0:jX o w zI M 0=YP M.length zI:=by unfold jX;rw [ZC];rfl
 have hA0:az C 3 1 (a+2) ((jX o w zI M 0).map lA) (.slice (some ⟨a+2,0,none⟩) M.length (2*M.length)):=by
  rw [r0];exact .inr ⟨_,_,by rw [Yb,qaK],vr.1,vr.2,fun l hl=>by
   obtain⟨_,_,rfl⟩:=YN.1 hl;rfl,.inl (by rw [Yb,qaK])⟩
 apply W.seq;apply W.seq;apply W.run 20
 ·intro M;simp (disch:=first|decide+kernel|omega) only [j9,ZJ,Aq,X2,dc,lC,lenC];rfl
 apply W.block;refine W.Xx M.length (fun i t D ds=>GI o w M C a (.slice (some ⟨a+2,0,none⟩) M.length (2*M.length)) i D ds∧Sl t [(1,.func (.func fo) ⟨[]⟩ ⟨[]⟩),(3,pV a),(5,pV (a+1)),(6,.int .i64 (0:Nat)),(7,pV (a+3)),(17,y),(18,.int .i64 M.length),(19,.int .i64 i)]) ?_ (Yg _) ⟨⟨hA0,fun _ _ _=>rfl,X9 _,qbs,fun d hd=>by cases hd⟩,?_⟩
 ·rintro i t D ds hi ⟨hR,hs⟩;by_cases hlt:i<M.length
  ·refine(Tt h hg hl hO hW (X6 hlt) kAC ⟨ha,nC⟩ v3 v5 v7 hR hs).mono ?_;rintro e s' ⟨rfl,t',D',d',rfl,hR',hs'⟩;exact⟨hlt,t',D',d',rfl,hR',hs'⟩
  ·have e:i=M.length:=by omega
   subst e;obtain⟨hA,hf,hn,hnd,hds⟩:=hR;obtain⟨g1,g3,g5,g6,g7,g17,g18,g19,-⟩:=hs;have rl:jX o w zI M M.length=di o w zI M:=by unfold jX;rw [Zg,Yw,List.replicate_zero,Y']
   rw [rl] at hA;have hal:=lZ o w zI M;have l7:aq ai D.get 300 (pw (a+3) 0)= .ok (.slice (some ⟨a+2,0,none⟩) M.length (2*M.length)):=bf Kn rfl (v7.2.same (hf _ (by omega) (by omega))) rfl;have ll:aO ai .len [300] [.slice (some ⟨a+2,0,none⟩) M.length (2*M.length)]= .ok (.int .i64 (M.length:Nat)):=dJ Kn;have ix:=Jc hA (i:=M.length-1) (by omega);have ld:=T1 hA (i:=M.length-1) (v:=(di o w zI M).getD (M.length-1) zI) (by rw [YZ,X6 (by omega)];rfl);have s1:aN .sub .i64 ((M.length:Nat):Int) ((1:Nat):Int)= .ok (.int .i64 (M.length-1:Nat)):=bq (by omega) (aR (by omega));simp only [pV] at g6 g7;apply W.run 20
   ·intro M;simp (disch:=first|decide+kernel|omega) only [dz,j9,ZJ,Aq,X2,g18,g19];rfl
   apply W.seq;apply W.run 20
   ·intro M;simp (disch:=first|decide+kernel|omega) only [j9,ZJ,Aq,X2,g6,g7,l7,ll,bR,bw,hpos,s1,ix,ld];rfl
   apply W.seq;apply W.run 20
   ·intro M;simp (disch:=first|decide+kernel|omega) only [j9,ZJ,Aq,X2,g6];rfl
   apply W.run 20
   ·intro M;simp (disch:=first|decide+kernel|omega) only [j9,ZJ,Aq,X2];rfl
   obtain⟨I,t1,t2,t3⟩:=iM ds D hnd (fun d hd=>(hds d hd).2.2);refine⟨.inr rfl,I,_,t1,(by simp only [ZJ,Aq,X2]<;>rfl),rfl,by omega,fun z hz=>?_⟩;rw [t3 z (fun hm=>by have:=(hds z hm).1;omega),hf z (by omega) (by omega),kAC.2 z (by omega)]
 ·simp only [av,aw,T.af,T.ag,T.ak,X2,X3,if_true,if_false,and_true,true_and,pV]
noncomputable def jY:Code:=ZE.body.getD .skip
noncomputable def du:Code:=sub jY [1,1,0,1,0,0]
theorem Q8:ZE.body=some (.seq (sub jY [0]) (.seq (sub jY [1,0]) (.seq (.seq (sub jY [1,1,0,0]) (.block 0 (.loop du))) (.seq (sub jY [1,1,1,0]) (.seq (sub jY [1,1,1,1,0]) (sub jY [1,1,1,1,1])))))):=by kernel_rfl
theorem Lb:du=(.seq (sub du [0]) (.seq (sub du [1,0]) (.seq (.block 1 (.seq (sub du [1,1,0,0,0]) (.seq (sub du [1,1,0,0,1,0]) (.seq (sub du [1,1,0,0,1,1,0]) (.block 2 (.rangeFunc (.tmp 32) #[33,34] (sub du [1,1,0,0,1,1,1,0,0]) (sub du [1,1,0,0,1,1,1,0,1]))))))) (sub du [1,1,1])))):=by kernel_rfl
noncomputable def fV (t:T Value) (d:Nat):gI:=oP t 62 [33,34] (sub du [1,1,0,0,1,1,1,0,0]) (sub du [1,1,0,0,1,1,1,0,1]) d
def Bw (o:bj→dO) (w:dO→dO→Nat→dO) (M:List bj) (i:Nat) (s:bj) (ab lp:Nat) (x:Value) (L:gI) (j:Nat) (D:Mem):Prop:=
 az D 259 3 ab (((jX o w zG M i).set i (jq o w zG (di o w zG (M.take i)) s j)).map bQ) x∧D.get lp=some (.loop L)∧lp<D.next
theorem J_ {o:bj→dO} {w:dO→dO→Nat→dO} {s:bj} {ab lp:Nat} {x:Value} {L:gI} (j:Nat) (D E:Mem) (h:Bw o w M i s ab lp x L j D) (k:Kp D E):Bw o w M i s ab lp x L j E:=
 ⟨h.1.same k.1 (k.2 ab),by rw [k.2 _ h.2.2];exact h.2.1,Yt h.2.2 k.1⟩
def GO (fo:FuncId) (o:bj→dO):Prop:=∀(D:Mem) (x:Value) (s:bj),∃E,bL ai fo [.agg ⟨cW x s⟩] D (j6 (o s)) E∧Kp D E
def wM (fw:FuncId) (o:bj→dO) (w:dO→dO→Nat→dO) (M:List bj):Prop:=∀(D:Mem) (i j:Nat) (s:bj) (a:cO),M[i]?=some s→s.arcs[j]?=some a→
 ∃E,bL ai fw [j6 (jq o w zG (di o w zG (M.take i)) s j),j6 ((di o w zG (M.take i)).getD a.to zG),.int .u64 a.out] D (j6 (jq o w zG (di o w zG (M.take i)) s (j+1))) E∧Kp D E
theorem Ty {o:bj→dO} {w:dO→dO→Nat→dO} {a lp:Nat} {s:bj} {x:Value} (hW:wM fw o w M) (hi:M[i]?=some s) (ht:∀a∈s.arcs,a.to<i)
 (v7:VB B 306 (a+4) (.var 1) [x]) (v8:VB B 3 p (.var 1) [.int .i64 i]) (v5:VB B 264 (a+1) (.var 1) [.func (.func fw) ⟨[]⟩ ⟨[]⟩]) (hp:a+4<p∧p<lp∧lp<B.next)
 (hs:Sl t [(5,pV (a+1)),(7,pV (a+4)),(8,pV p)]):NZ B (a+3) lp s (Bw o w M i s (a+3) lp x (fV t d)):=by
 rintro j c D hj ⟨hA,hL,hlt⟩ hn hf;obtain⟨g5,g7,g8,-⟩:=hs;obtain⟨p1,p2,p3⟩:=hp;have hil:=(X_.1 hi).1;have hto:=ht c (YF hj);have hrl:=sW o w zG (i:=i) (M:=M) (by omega);have sE:aW ai (D.alloc (aa 305 [.int .i64 (0:Nat),.int .u64 (0:Nat)])) 305 (pw D.next 0) (DC c)= .ok (D.alloc (aa 305 [.int .i64 c.to,.int .u64 c.out])):=bn (by kernel_rfl) rfl rfl (by simp) (by simp [aJ]);have z305:b7 ai 305= .ok (.agg ⟨[.int .i64 (0:Nat),.int .u64 (0:Nat)]⟩):=by kernel_rfl
 have f0:∀b,ax ai 305 (pw b 0) 0= .ok (pw b 0):=fun b=>by kernel_rfl
 have f1:∀b,ax ai 305 (pw b 0) 1= .ok (pw b 1):=fun b=>by kernel_rfl
 have kE:=Kp.alloc D (aa 305 [.int .i64 c.to,.int .u64 c.out]);have vE:=aF D 305 [.int .i64 c.to,.int .u64 c.out];have nE:(D.alloc (aa 305 [.int .i64 c.to,.int .u64 c.out])).next=D.next+1:=ae _ _
 generalize D.alloc (aa 305 [.int .i64 c.to,.int .u64 c.out])=E at sE kE vE nE;have hLE:E.get lp=some (.loop (fV t d)):=by rw [kE.2 _ hlt];exact hL
 generalize hF:E.set lp (.loop {fV t d with state:=.busy})=F;have nF:F.next=E.next:=by rw [←hF];exact aX _ _ _
 have fF:∀z,z≠lp→F.get z=E.get z:=fun z hz=>by rw [←hF,aL,if_neg hz]
 have hLF:F.get lp=some (.loop {fV t d with state:=.busy}):=by rw [←hF,aL,if_pos rfl]
 have hBF:∀z,z<B.next→z≠a+3→z≠lp→F.get z=B.get z:=fun z hz h1 h2=>by rw [fF z h2,kE.2 z (by omega),hf z hz h1 h2]
 have hAF:=hA.same (A':=F) (by omega) fun hlt=>by rw [fF _ (by omega),kE.2 _ hlt]
 obtain⟨G,⟨g,hg⟩,kG⟩:=hW F i j s c hi hj;have keep:∀e z k l,VB B e z k l→z≠a+3→z≠lp→VB F e z k l:=fun e z k l h h1 h2=>⟨by have:=h.1;omega,h.2.same (hBF z h.1 h1 h2)⟩
 have w7:=keep _ _ _ _ v7 (by omega) (by omega);have w8:=keep _ _ _ _ v8 (by omega) (by omega);have w5:=keep _ _ _ _ v5 (by omega) (by omega);have l7:∀G,Kp F G→aq ai G.get 306 (pw (a+4) 0)= .ok x:=fun G h=>(w7.kp h).ld rfl Kj rfl
 have l8:∀G,Kp F G→aq ai G.get 3 (pw p 0)= .ok (.int .i64 i):=fun G h=>(w8.kp h).ld rfl u3 rfl
 have l5:aq ai F.get 264 (pw (a+1) 0)= .ok (.func (.func fw) ⟨[]⟩ ⟨[]⟩):=by
  obtain⟨d,hd1,hd2⟩:=bA (t:=264) (p:=false) (by kernel_rfl);exact w5.ld rfl hd1 hd2
 have r7:=l7 F (Kp.refl _);have r8:=l8 F (Kp.refl _);have r7':=l7 G kG;have r8':=l8 G kG;have vF:VB F 305 D.next (.var 2) [.int .i64 c.to,.int .u64 c.out]:=⟨by omega,vE.2.same (fF _ (by omega))⟩
 have e0:aq ai F.get 3 (pw D.next 0)= .ok (.int .i64 c.to):=vF.ld rfl u3 rfl;have e1:aq ai F.get 103 (pw D.next 1)= .ok (.int .u64 c.out):=vF.ld rfl ff rfl;have i1:=Ii hAF (i:=i) (by rw [YG];omega);have i2:=Ii hAF (i:=c.to) (by rw [YG];omega);have d1:=TN hAF (i:=i) (by rw [Zn,if_pos rfl,if_pos (by omega)]);have d2:=TN hAF (i:=c.to) (I0 o w zG (by omega) hto _);have hAG:=hAF.same kG.1 (kG.2 _);obtain⟨H,sH,hAH,nH,fH⟩:=Vh (v:=jq o w zG (di o w zG (M.take i)) s (j+1)) hAG (i:=i) (by rw [YG];omega);rw [List.set_set] at hAH;have nG:=kG.1;have hLH:H.get lp=some (.loop {fV t d with state:=.busy}):=by rw [fH _ (by omega),kG.2 _ (by omega)];exact hLF
 have sx:cD 100 x x=true:=(az.Ai (by omega) hAF).self 99;have si:=eg .i64 i rfl;simp only [pV] at g5 g7 g8;have hq:∃C,(∃g,∀N,g≤N→bg ai (exec ai N) (.round lp [.int .u8 (c.byte.toNat:Nat),DC c]) D= .ok (.val (.bool true) C))∧C=H.set lp (.loop (fV t d)):=by
  refine mI hL (t:=(t.set 33 (.int .u8 (c.byte.toNat:Nat))).set 34 (DC c)) rfl ?_;show W ai (sub du [1,1,0,0,1,1,1,0,0]) ⟨_,62,[],D,some lp⟩ _;apply W.run 20
  ·intro M;simp (disch:=first|decide+kernel|omega) only [du,jY,ZE,Aq,X2,z305,au,sE];rfl
  refine⟨rfl,_,hLE,rfl,?_⟩;show W ai (sub du [1,1,0,0,1,1,1,0,1]) ⟨_,62,[],E.set lp (.loop {fV t d with state:=.busy}),some lp⟩ _;rw [hF];apply W.a6 (g) 20
  ·intro M hM;simp (config:={maxSteps:=4000000}) (disch:=first|decide+kernel|omega|simp only [Wq,X2]) only [du,jY,ZE,Aq,X5,reduceIte,X2,X3,g5,g7,g8,r7,r8,r7',r8',l5,f0,f1,e0,e1,i1,i2,d1,d2,hg,sH,sx,si,Fq,aC [(0,14),(1,14)]];rfl
  exact⟨rfl,rfl,_,hLH,rfl⟩
 obtain⟨C,hc,rfl⟩:=hq;have fr:∀z,z≠lp→(H.set lp (.loop (fV t d))).get z=H.get z:=fun z hz=>by rw [aL,if_neg hz]
 have nr:(H.set lp (.loop (fV t d))).next=H.next:=aX _ _ _
 refine⟨_,hc,⟨hAH.same (by omega) fun _=>fr _ (by omega),by rw [aL,if_pos rfl],by omega⟩,by omega,fun z hz h1 h2=>?_⟩;rw [fr z h2,fH z h1,kG.2 z (by omega),fF z h2,kE.2 z hz]
def FV (o:bj→dO) (w:dO→dO→Nat→dO) (M:List bj) (B:Mem) (a:Nat) (x:Value) (i:Nat) (D:Mem) (ds:List Nat):Prop:=
 az D 259 3 (a+3) ((jX o w zG M i).map bQ) x∧(∀z,z<B.next→z≠a+3→D.get z=B.get z)∧B.next≤D.next∧ds.Nodup∧∀d∈ds,B.next≤d∧d<D.next∧D.get d=some .defd
theorem W7:b7 ai 306= .ok (.slice none 0 0):=by kernel_rfl
theorem Sy {fo:FuncId} {o:bj→dO} {w:dO→dO→Nat→dO} {D:Mem} {k x:Value} {a:Nat} {s:bj} {ds:List Nat} (h:eX A M y) (hg:dM M) (hl:M.length<1000000) (hO:GO fo o) (hW:wM fw o w M) (hi:M[i]?=some s)
 (hB:Kp A B) (ha:A.next=a∧B.next=a+4+1) (v3:VB B 105 a (.var 2) [y,k]) (v5:VB B 264 (a+1) (.var 1) [.func (.func fw) ⟨[]⟩ ⟨[]⟩]) (v7:VB B 306 (a+4) (.var 1) [x]) (hR:FV o w M B a x i D ds)
 (hs:Sl t [(1,.func (.func fo) ⟨[]⟩ ⟨[]⟩),(3,pV a),(5,pV (a+1)),(6,pV (a+2)),(7,pV (a+4)),(17,y),(18,.int .i64 M.length),(19,.int .i64 i)]):
 W ai du ⟨t,62,ds,D,none⟩ fun e s'=>e= .nrm∧∃t' D' d',s'=⟨t',62,d',D',none⟩∧FV o w M B a x (i+1) D' d'∧
  Sl t' [(1,.func (.func fo) ⟨[]⟩ ⟨[]⟩),(3,pV a),(5,pV (a+1)),(6,pV (a+2)),(7,pV (a+4)),(17,y),(18,.int .i64 M.length),(19,.int .i64 (i+1:Nat))]:=by
 obtain⟨hA,hf,hn,hnd,hds⟩:=hR;obtain⟨g1,g3,g5,g6,g7,g17,g18,g19,-⟩:=hs;obtain⟨ha1,ha2⟩:=ha;have hil:=(X_.1 hi).1;obtain⟨-,k2,k3,-,-⟩:=hg i s hi;have hfew:=mU (hg i s hi);have hrl:=sW o w zG (i:=i) (M:=M) (by omega);have kAD:Kp A D:=⟨by omega,fun z hz=>by rw [hf z (by omega) (by omega),hB.2 z hz]⟩;obtain⟨xs,p,q,i1,i2,hx,i4⟩:=(h.kp kAD).get hi;have i5:=(i4 D (Kp.refl _)).1;have k1:=Kp.alloc D (aa 3 [.int .i64 (0:Nat)]);have n1:(D.alloc (aa 3 [.int .i64 (0:Nat)])).next=D.next+1:=ae _ _
 have n2:((D.alloc (aa 3 [.int .i64 (0:Nat)])).alloc (aa 164 [.slice none 0 0,.bool false,.int .u64 (0:Nat)])).next=D.next+2:=by rw [ae,n1]
 have w1:=(aF D 3 [.int .i64 (0:Nat)]).kp (Kp.alloc _ (aa 164 [.slice none 0 0,.bool false,.int .u64 (0:Nat)]));have w2:=aF (D.alloc (aa 3 [.int .i64 (0:Nat)])) 164 [.slice none 0 0,.bool false,.int .u64 (0:Nat)];have k2':=k1.trans (Kp.alloc _ (aa 164 [.slice none 0 0,.bool false,.int .u64 (0:Nat)]));rw [n1] at w2;obtain⟨E1,sE1,u1,m1,fE1⟩:=a_ (tb:=ai) (t:=3) (o:=0) (v:=.int .i64 i) Q5 w1.2 (by simp) rfl rfl;obtain⟨E,sE,u2,m2,fE⟩:=bx (tb:=ai) (t:=164) (l':=cW xs s) (by exact mQ) (w2.2.same (fE1 _ (by omega))) rfl (by simp) (F7 hx);have hzero3:b7 ai 3= .ok (.int .i64 (0:Nat)):=gN;have fED:∀z,z<D.next→E.get z=D.get z:=fun z hz=>by rw [fE z (by omega),fE1 z (by omega),k2'.2 z hz]
 have kDE:Kp D E:=⟨by omega,fED⟩;have V8:VB E 3 D.next (.var 1) [.int .i64 i]:=⟨by omega,u1.same (fE _ (by omega))⟩
 have V9:VB E 164 (D.next+1) (.var 3) (cW xs s):=⟨by omega,u2⟩;have keep:∀e z k l,VB B e z k l→z≠a+3→VB E e z k l:=fun e z k l h h1=>⟨by have:=h.1;omega,h.2.same (by rw [fED z (by have:=h.1;omega),hf z h.1 h1])⟩
 have V7:=keep _ _ _ _ v7 (by omega);have V3:=keep _ _ _ _ v3 (by omega);have V5:=keep _ _ _ _ v5 (by omega);have hAE:=hA.same kDE.1 (kDE.2 _);obtain⟨F,⟨gf,hgf⟩,kF⟩:=hO E xs s;obtain⟨d,hd1,hd2⟩:=bA (t:=164) (p:=true) (by kernel_rfl);have l9:aq ai E.get 164 (pw (D.next+1) 0)= .ok (.agg ⟨cW xs s⟩):=aQ hd1 hd2 (l:=cW xs s) mQ V9.2;have l7:∀G,Kp E G→aq ai G.get 306 (pw (a+4) 0)= .ok x:=fun G h=>(V7.kp h).ld rfl Kj rfl
 have l8:∀G,Kp E G→aq ai G.get 3 (pw D.next 0)= .ok (.int .i64 i):=fun G h=>(V8.kp h).ld rfl u3 rfl
 have r7:=l7 E (Kp.refl _);have r8:=l8 E (Kp.refl _);have r7':=l7 F kF;have r8':=l8 F kF;have ix:=Ii hAE (i:=i) (by omega);obtain⟨G,sG,hAG,nG,fG⟩:=Vh (v:=o s) (hAE.same kF.1 (kF.2 _)) (i:=i) (by omega);have sx:cD 100 x x=true:=(az.Ai (by omega) hA).self 99;have si:=eg .i64 i rfl;have nF:=kF.1;have nE:E.next=D.next+2:=by omega
 have fGE:∀z,z<E.next→z≠a+3→G.get z=E.get z:=fun z hz h=>by rw [fG z h,kF.2 z hz]
 have lG8:aq ai G.get 3 (pw D.next 0)= .ok (.int .i64 i):=bf u3 rfl (V8.2.same (fGE _ (by omega) (by omega))) rfl;obtain⟨d2,hd3,hd4⟩:=bA (t:=105) (p:=true) (by kernel_rfl);have lG3:aq ai G.get 105 (pw a 0)= .ok (.agg ⟨[y,k]⟩):=aQ hd3 hd4 (l:=[y,k]) eD (V3.2.same (fGE _ (by omega) (by omega)));obtain⟨gw,hgw⟩:=Dr (A:=G) (y:=y) (k:=k) (n:=i);have x1:=(aF G 105 [y,k]).kp (Kp.alloc _ (aa 3 [.int .i64 i]));have x2:=aF (G.alloc (aa 105 [y,k])) 3 [.int .i64 i];have y1:(G.alloc (aa 105 [y,k])).next=G.next+1:=ae _ _
 have y2:((G.alloc (aa 105 [y,k])).alloc (aa 3 [.int .i64 i])).next=G.next+2:=by rw [ae,y1]
 have kH:=(Kp.alloc G (aa 105 [y,k])).trans (Kp.alloc _ (aa 3 [.int .i64 i]));rw [y1] at x2;generalize (G.alloc (aa 105 [y,k])).alloc (aa 3 [.int .i64 i])=H at hgw x1 x2 y2 kH;simp only [pV] at g3 g5 g7 hgw;rw [Lb];apply W.seq;apply W.run 20
 ·intro M;simp (disch:=first|decide+kernel|omega) only [du,jY,ZE,Aq,X2,g18,g19,hil];rfl
 apply W.seq;apply W.run 20
 ·intro M;simp (disch:=first|decide+kernel|omega) only [du,jY,ZE,Aq,X2];rfl
 apply W.seq;apply W.block;apply W.seq;apply W.run 20
 ·intro M;simp (disch:=first|decide+kernel|omega) only [du,jY,ZE,Aq,X2,g17,g19,i1,i5,hzero3,jr,au,dQ,n1,sE1,sE];rfl
 apply W.seq;apply W.a6 (gf) 20
 ·intro M hM;simp (config:={maxSteps:=4000000}) (disch:=first|decide+kernel|omega|simp only [Wq,X2]) only [du,jY,ZE,Aq,X5,reduceIte,X2,X3,g1,g7,r7,r8,l9,hgf,ix,r7',r8',sx,si,sG,Fq,aC [(0,4),(1,4)]];rfl
 apply W.seq;apply W.a6 (gw) 20
 ·intro M hM;simp (disch:=first|decide+kernel|omega) only [du,jY,ZE,Aq,X2,g3,lG3,lG8,hgw];rfl
 apply W.block;generalize ht0:T.set _ _ _=t0;have hsl:Sl t0 [(1,.func (.func fo) ⟨[]⟩ ⟨[]⟩),(3,pV a),(5,pV (a+1)),(6,pV (a+2)),(7,pV (a+4)),(8,pV D.next),(17,y),(18,.int .i64 M.length),(19,.int .i64 i),(32,.func (.func 233) ⟨[]⟩ ⟨[pV G.next,pV (G.next+1)]⟩)]:=by
  rw [←ht0];simp only [av,aw,T.af,T.ag,T.ak,X2,X3,if_true,if_false,and_true,true_and,g1,g3,g5,g6,g7,g17,g18,g19,pV]
 clear ht0;obtain⟨h1,h3,h5,h6,h7,h8,h17,h18,h19,h32,-⟩:=hsl;have kJ:=(Kp.alloc H .defd).trans (Kp.alloc (H.alloc .defd) (.loop (fV t0 H.next)));have nJ1:(H.alloc .defd).next=H.next+1:=ae _ _
 have nJ:((H.alloc .defd).alloc (.loop (fV t0 H.next))).next=H.next+2:=by rw [ae,nJ1]
 have jL:((H.alloc .defd).alloc (.loop (fV t0 H.next))).get (H.next+1)=some (.loop (fV t0 H.next)):=by have:=aD (H.alloc .defd) (.loop (fV t0 H.next));rwa [nJ1] at this
 have jM:((H.alloc .defd).alloc (.loop (fV t0 H.next))).get H.next=some .defd:=by rw [(Kp.alloc (H.alloc .defd) _).2 _ (by omega)];exact aD H .defd
 generalize hJ:(H.alloc .defd).alloc (.loop (fV t0 H.next))=J at kJ nJ jL jM;have kGJ:=kH.trans kJ;have toJ:∀e z k l,VB E e z k l→z≠a+3→VB J e z k l:=fun e z k l h h1=>VB.kp (A:=G) ⟨by have:=h.1;omega,h.2.same (fGE z h.1 h1)⟩ kGJ
 have hJA:Bw o w M i s (a+3) (H.next+1) x (fV t0 H.next) 0 J:=⟨hAG.same kGJ.1 (kGJ.2 _),jL,by omega⟩;have fJD:∀z,z<D.next→z≠a+3→J.get z=D.get z:=fun z hz h=>by rw [kGJ.2 z (by omega),fGE z (by omega) h,fED z hz]
 have kAJ:Kp A J:=⟨by omega,fun z hz=>by rw [fJD z (by omega) (by omega),kAD.2 z hz]⟩;obtain⟨v,C,hC,⟨c1,c2,c3⟩,nC,fC⟩:=Es (A:=A) (B:=J) (q:=G.next) (ab:=a+3) (lp:=H.next+1) (k:=k) h hi k3 k2 hfew hl kAJ (x1.kp kJ) (x2.kp kJ) ⟨by omega,by omega,by omega,by omega,by omega,by omega,by omega,by omega⟩ J_
  (Ty hW hi k3 (toJ _ _ _ _ V7 (by omega)) (toJ _ _ _ _ V8 (by omega)) (toJ _ _ _ _ V5 (by omega)) ⟨by omega,by omega,by omega⟩ ⟨h5,h7,h8,trivial⟩) hJA
 refine W.Hv (fid:=233) (first:=[]) (capt:=[pV G.next,pV (G.next+1)]) (v:=v) (A':=C) (r:=fV t0 H.next) (e:=.nrm) (by simp only [ev,h32]) (by show bL ai 233 _ ((H.alloc .defd).alloc (.loop (fV t0 H.next))) v C;rw [hJ];exact hC) c2 (by simp [fV,oP]) (.inl ⟨rfl,rfl⟩) ?_;have c1:az C 259 3 (a+3) ((jX o w zG M (i+1)).map bQ) x:=by rw [←Aa o w zG hi];exact c1
 generalize hK:C.set (H.next+1) (.loop {fV t0 H.next with state:=.exhausted})=K;have nK:K.next=C.next:=by rw [←hK];exact aX _ _ _
 have fK:∀z,z≠H.next+1→K.get z=C.get z:=fun z hz=>by rw [←hK,aL,if_neg hz]
 show W ai (sub du [1,1,1]) _ _;apply W.run 20
 ·intro M;simp (disch:=first|decide+kernel|omega) only [du,jY,ZE,Aq,X2,h19];rfl
 have hJK:∀z,z<J.next→z≠a+3→z≠H.next+1→K.get z=J.get z:=fun z hz h1 h2=>by rw [fK z h2,fC z hz h1 h2]
 refine⟨rfl,_,K,_,rfl,⟨c1.same (by omega) fun _=>fK _ (by omega),fun z hz h1=>by rw [hJK z (by omega) h1 (by omega),fJD z (by omega) h1,hf z hz h1],by omega,qbc.2 ⟨fun hm=>?_,hnd⟩,fun d hd=>?_⟩,?_⟩
 ·have:=hds _ hm;omega
 ·rcases Yp.1 hd with rfl|hd
  ·exact⟨by omega,by omega,by rw [hJK _ (by omega) (by omega) (by omega),jM]⟩
  ·obtain⟨e1,e2,e3⟩:=hds d hd;exact⟨e1,by omega,by rw [hJK _ (by omega) (by omega) (by omega),fJD _ e2 (by omega),e3]⟩
 ·simp only [av,aw,T.af,T.ag,T.ak,X2,X3,if_true,if_false,and_true,true_and,h1,h3,h5,h6,h7,h17,h18,pV]
theorem G4 {fo:FuncId} {o:bj→dO} {w:dO→dO→Nat→dO} {k:Value} (h:eX A M y) (hg:dM M) (hM:M≠ []) (hl:M.length<1000000) (hO:GO fo o) (hW:wM fw o w M):
 ∃v A',bL ai 176 [.agg ⟨[y,k]⟩,.func (.func fo) ⟨[]⟩ ⟨[]⟩,.func (.func fw) ⟨[]⟩ ⟨[]⟩] A v A'∧v=j6 ((di o w zG M).getD (M.length-1) zG)∧Kp A A':=by
 refine eE (aB Tryz.func176) Q8 (by rw [Tryz.ntmps176];simp) (by kernel_rfl) (by kernel_rfl) ?_;generalize ha:A.next=a
 have hpos:=YM.2 hM;have n1:(A.alloc (aa 105 [y,k])).next=a+1:=by rw [ae,ha]
 have n2:((A.alloc (aa 105 [y,k])).alloc (aa 264 [.func (.func fw) ⟨[]⟩ ⟨[]⟩])).next=a+2:=by rw [ae,n1]
 have n3:(((A.alloc (aa 105 [y,k])).alloc (aa 264 [.func (.func fw) ⟨[]⟩ ⟨[]⟩])).alloc (aa 259 (bQ zG))).next=a+3:=by rw [ae,n2]
 have kB2:=Kp.alloc ((A.alloc (aa 105 [y,k])).alloc (aa 264 [.func (.func fw) ⟨[]⟩ ⟨[]⟩])) (aa 259 (bQ zG));have kB:=((Kp.alloc A (aa 105 [y,k])).trans (Kp.alloc _ (aa 264 [.func (.func fw) ⟨[]⟩ ⟨[]⟩]))).trans kB2;have v3:=((aF A 105 [y,k]).kp (Kp.alloc _ (aa 264 [.func (.func fw) ⟨[]⟩ ⟨[]⟩]))).kp kB2;have v5:=(aF (A.alloc (aa 105 [y,k])) 264 [.func (.func fw) ⟨[]⟩ ⟨[]⟩]).kp kB2;have v6:=aF ((A.alloc (aa 105 [y,k])).alloc (aa 264 [.func (.func fw) ⟨[]⟩ ⟨[]⟩])) 259 (bQ zG);have z259:b7 ai 259= .ok (.agg ⟨bQ zG⟩):=by kernel_rfl
 rw [ha] at v3;rw [n1] at v5;rw [n2] at v6;apply W.seq;apply W.run 20
 ·intro M;simp (disch:=first|decide+kernel|omega) only [jY,ZE,Aq,X2,au,dx,ha,n1,n2,z259];rfl
 show W ai _ _ _;generalize ((A.alloc (aa 105 [y,k])).alloc (aa 264 [.func (.func fw) ⟨[]⟩ ⟨[]⟩])).alloc (aa 259 (bQ zG))=B at*;have hS:=h.kp kB;have lB:aq ai B.get 102 (pw a 0)= .ok y:=v3.ld rfl fX rfl;have cz:=hS.len;have mk:=W0 (n:=M.length) (by omega);have nB:B.next=a+3:=by assumption
 have n4:(B.alloc (aa 259 ((YP M.length zG).map bQ).flatten)).next=a+4:=by rw [ae,nB]
 have kC:=(Kp.alloc B (aa 259 ((YP M.length zG).map bQ).flatten)).trans (Kp.alloc _ (aa 306 [.slice (some ⟨a+3,0,none⟩) M.length (2*M.length)]));have vr:=(aF B 259 ((YP M.length zG).map bQ).flatten).kp (Kp.alloc _ (aa 306 [.slice (some ⟨a+3,0,none⟩) M.length (2*M.length)]));have v7:=aF (B.alloc (aa 259 ((YP M.length zG).map bQ).flatten)) 306 [.slice (some ⟨a+3,0,none⟩) M.length (2*M.length)];have sC:aW ai ((B.alloc (aa 259 ((YP M.length zG).map bQ).flatten)).alloc (aa 306 [.slice none 0 0])) 306 (pw ((B.alloc (aa 259 ((YP M.length zG).map bQ).flatten)).next) 0) (.slice (some ⟨a+3,0,none⟩) M.length (2*M.length))= .ok _:=bn (l':=[.slice (some ⟨a+3,0,none⟩) M.length (2*M.length)]) PZ rfl rfl (by simp) (by simp [aJ]);have nC:((B.alloc (aa 259 ((YP M.length zG).map bQ).flatten)).alloc (aa 306 [.slice (some ⟨a+3,0,none⟩) M.length (2*M.length)])).next=a+4+1:=by rw [ae,n4]
 rw [n4] at v7 sC;rw [nB] at vr;apply W.seq;apply W.run 20
 ·intro M;simp (disch:=first|decide+kernel|omega) only [jY,ZE,Aq,X2,dc,lB,cz,mk,nB,W7,n4,sC];rfl
 show W ai _ _ _;generalize (B.alloc (aa 259 ((YP M.length zG).map bQ).flatten)).alloc (aa 306 [.slice (some ⟨a+3,0,none⟩) M.length (2*M.length)])=C at*;have kAC:=kB.trans kC;have hSC:=h.kp kAC;have v3:=v3.kp kC;have v5:=v5.kp kC;have v6:=v6.kp kC;have lC:aq ai C.get 102 (pw a 0)= .ok y:=v3.ld rfl fX rfl;have lenC:=hSC.len;have r0:jX o w zG M 0=YP M.length zG:=by unfold jX;rw [ZC];rfl
 have hA0:az C 259 3 (a+3) ((jX o w zG M 0).map bQ) (.slice (some ⟨a+3,0,none⟩) M.length (2*M.length)):=by
  rw [r0];exact .inr ⟨_,_,by rw [Yb,qaK],vr.1,vr.2,fun l hl=>by
   obtain⟨_,_,rfl⟩:=YN.1 hl;rfl,.inl (by rw [Yb,qaK])⟩
 apply W.seq;apply W.seq;apply W.run 20
 ·intro M;simp (disch:=first|decide+kernel|omega) only [jY,ZE,Aq,X2,dc,lC,lenC];rfl
 apply W.block;refine W.Xx M.length (fun i t D ds=>FV o w M C a (.slice (some ⟨a+3,0,none⟩) M.length (2*M.length)) i D ds∧Sl t [(1,.func (.func fo) ⟨[]⟩ ⟨[]⟩),(3,pV a),(5,pV (a+1)),(6,pV (a+2)),(7,pV (a+4)),(17,y),(18,.int .i64 M.length),(19,.int .i64 i)]) ?_ (Yg _) ⟨⟨hA0,fun _ _ _=>rfl,X9 _,qbs,fun d hd=>by cases hd⟩,?_⟩
 ·rintro i t D ds hi ⟨hR,hs⟩;by_cases hlt:i<M.length
  ·refine(Sy h hg hl hO hW (X6 hlt) kAC ⟨ha,nC⟩ v3 v5 v7 hR hs).mono ?_;rintro e s' ⟨rfl,t',D',d',rfl,hR',hs'⟩;exact⟨hlt,t',D',d',rfl,hR',hs'⟩
  ·have e:i=M.length:=by omega
   subst e;obtain⟨hA,hf,hn,hnd,hds⟩:=hR;obtain⟨g1,g3,g5,g6,g7,g17,g18,g19,-⟩:=hs;have rl:jX o w zG M M.length=di o w zG M:=by unfold jX;rw [Zg,Yw,List.replicate_zero,Y']
   rw [rl] at hA;have hal:=lZ o w zG M;have l7:aq ai D.get 306 (pw (a+4) 0)= .ok (.slice (some ⟨a+3,0,none⟩) M.length (2*M.length)):=bf Kj rfl (v7.2.same (hf _ (by omega) (by omega))) rfl;have ll:aO ai .len [306] [.slice (some ⟨a+3,0,none⟩) M.length (2*M.length)]= .ok (.int .i64 (M.length:Nat)):=dJ Kj;have ix:=Ii hA (i:=M.length-1) (by omega);have ld:=TN hA (i:=M.length-1) (v:=(di o w zG M).getD (M.length-1) zG) (by rw [YZ,X6 (by omega)];rfl);have s1:aN .sub .i64 ((M.length:Nat):Int) ((1:Nat):Int)= .ok (.int .i64 (M.length-1:Nat)):=bq (by omega) (aR (by omega));simp only [pV] at g6 g7;obtain⟨E1,sE1,w1,m1,fE1⟩:=bx (tb:=ai) (t:=259) (l':=bQ ((di o w zG M).getD (M.length-1) zG)) (by exact vT) (v6.2.same (hf _ (by omega) (by omega))) rfl (by simp [bQ]) (Gw _);obtain⟨E,sE,w2,m2,fE⟩:=bx (tb:=ai) (t:=259) (l':=bQ ((di o w zG M).getD (M.length-1) zG)) (by exact vT) w1 rfl (by simp [bQ]) (Gw _);obtain⟨d,hd1,hd2⟩:=bA (t:=259) (p:=true) (by kernel_rfl);have l6:aq ai E1.get 259 (pw (a+2) 0)= .ok (.agg ⟨bQ ((di o w zG M).getD (M.length-1) zG)⟩):=aQ hd1 hd2 vT w1;unfold j6 at ld;apply W.run 20
   ·intro M;simp (disch:=first|decide+kernel|omega) only [du,jY,ZE,Aq,X2,g18,g19];rfl
   apply W.seq;apply W.run 20
   ·intro M;simp (disch:=first|decide+kernel|omega) only [jY,ZE,Aq,X2,g6,g7,l7,ll,bR,bw,hpos,s1,ix,ld,sE1];rfl
   apply W.seq;apply W.run 20
   ·intro M;simp (disch:=first|decide+kernel|omega) only [jY,ZE,Aq,X2,g6,l6,sE];rfl
   apply W.run 20
   ·intro M;simp (disch:=first|decide+kernel|omega) only [jY,ZE,Aq,X2];rfl
   obtain⟨I,t1,t2,t3⟩:=iM ds E hnd (fun d hd=>by
    obtain⟨e1,e2,e3⟩:=hds d hd;rw [fE _ (by omega),fE1 _ (by omega),e3])
   have l8:aq ai I.get 259 (pw (a+2) 0)= .ok (.agg ⟨bQ ((di o w zG M).getD (M.length-1) zG)⟩):=aQ hd1 hd2 vT (w2.same (t3 _ (fun hm=>by have:=(hds _ hm).1;omega)));refine⟨.inr rfl,I,_,t1,(by simp only [ZE,g6,l8,Aq,X2]<;>rfl),rfl,by omega,fun z hz=>?_⟩;rw [t3 z (fun hm=>by have:=(hds z hm).1;omega),fE z (by omega),fE1 z (by omega),hf z (by omega) (by omega),kAC.2 z (by omega)]
 ·simp only [av,aw,T.af,T.ag,T.ak,X2,X3,if_true,if_false,and_true,true_and,pV]
theorem rk {T:Type} {o:bj→T} {w:T→T→Nat→T} {z:T} {R:Nat→T→Prop}
 (hs:∀i s,M[i]?=some s→(∀k,k<i→R k ((di o w z (M.take i)).getD k z))→R i (jq o w z (di o w z (M.take i)) s s.arcs.length)):∀i,i≤M.length→∀k,k<i→R k ((di o w z (M.take i)).getD k z)
 |0,_,k,hk=>absurd hk (ZR _)
 |i+1,hi,k,hk=>by
  have ih:=rk hs i (by omega);have hl:=lZ o w z (M.take i);rw [Yo,Y4 (by omega)] at hl;rw [AX o w z (X6 (show i<M.length by omega)),YZ];rcases YE k i with h|h
  ·rw [Yz (by omega),←YZ];exact ih k h
  ·have e:k=i:=by omega
   subst e;rw [YA (by omega),hl,Zg];exact hs k _ (X6 (show k<M.length by omega)) ih
theorem rR {T:Type} {o:bj→T} {w:T→T→Nat→T} {z:T} {acc:List T} {s:bj} {P:Nat→T→Prop} (h0:P 0 (o s)) (hs:∀j a x,s.arcs[j]?=some a→P j x→P (j+1) (w x (acc.getD a.to z) a.out)):∀j,j≤s.arcs.length→P j (jq o w z acc s j)
 |0,_=>h0
 |j+1,hj=>by
  have hsj:=X6 (show j<s.arcs.length by omega);rw [pI o w z hsj];exact hs j _ _ hsj (rR h0 hs j (by omega))
def oC (s:bj):Int:=if s.fin then 1 else 0
def wC (x c:Int) (_:Nat):Int:=min (x+c) 100001
theorem TL (g:dM M) {s:bj} (h:M[i]?=some s):(ws M i).length=(if s.fin then 1 else 0)+(s.arcs.map fun a=>(ws M a.to).length).sum:=by
 rw [pS g h,X',List.length_flatMap];have e:(fun a=>(xS M a).length)=fun a=>(ws M a.to).length:=by funext a;unfold xS;rw [Yb]
 rw [e];cases s.fin<;>rfl
def MG (M:List bj) (s:bj) (j:Nat) (x:Int):Prop:=x=((min ((if s.fin then 1 else 0)+((s.arcs.take j).map fun a=>(ws M a.to).length).sum) 100001:Nat):Int)
theorem I4 (g:dM M) {s:bj} (h:M[i]?=some s) (hk:∀k,k<i→(di oC wC zI (M.take i)).getD k zI=((min (ws M k).length 100001:Nat):Int)):∀j,j≤s.arcs.length→MG M s j (jq oC wC zI (di oC wC zI (M.take i)) s j):=by
 refine rR ?_ fun j a x hj hx=>?_
 ·unfold MG oC;rw [ZC];cases s.fin<;>rfl
 ·obtain⟨hjl,ha⟩:=X_.1 hj;unfold MG at hx⊢;rw [hk a.to ((g i s h).2.2.1 a (YF hj)),hx,Yd hjl,YV,List.sum_append,ha];simp only [ZB,qbV,List.sum_cons,List.sum_nil,wC];generalize (qb9 (fun a=>(ws M a.to).length) (List.take j s.arcs)).sum=p;generalize (if s.fin=true then 1 else 0)=q;omega
theorem HW (g:dM M):∀i,i≤M.length→∀k,k<i→(di oC wC zI (M.take i)).getD k zI=((min (ws M k).length 100001:Nat):Int):=
 rk (R:=fun k v=>v=((min (ws M k).length 100001:Nat):Int)) fun i s h hk=>by
  have:=I4 g h hk s.arcs.length (X9 _);unfold MG at this;rw [Yw,←TL g h] at this;exact this
theorem UH:B6 172 oC:=fun D x s=>by
 have v:=aF D 164 (cW x s);refine⟨D.alloc (aa 164 (cW x s)),?_,Kp.alloc _ _⟩;generalize hE:D.alloc (aa 164 (cW x s))=E at v;have l1:aq ai E.get 4 (.pointer (some ⟨D.next,0+1,none⟩))= .ok (.bool s.fin):=v.ld rfl u4 rfl;unfold rU oC;cases hf:s.fin with
 |true=>
  rw [hf] at l1;show bL ai 172 _ _ (.int .i64 (1:Nat)) _;refine aT (aB Tryz.func172) (c:=qcs.body.getD .skip) (by kernel_rfl) (by rw [Tryz.ntmps172];simp) (by kernel_rfl) (by kernel_rfl) ?_;apply W.run 60
  ·intro M;simp (disch:=first|decide+kernel|omega) only [qcs,Aq,X2,au,hE,cR,l1];rfl
  exact⟨by simp,rfl,rfl,by simp only [qcs,Aq,X2,au,hE,cR,l1]<;>rfl⟩
 |false=>
  rw [hf] at l1;show bL ai 172 _ _ (.int .i64 (0:Nat)) _;refine aT (aB Tryz.func172) (c:=qcs.body.getD .skip) (by kernel_rfl) (by rw [Tryz.ntmps172];simp) (by kernel_rfl) (by kernel_rfl) ?_;apply W.run 60
  ·intro M;simp (disch:=first|decide+kernel|omega) only [qcs,Aq,X2,au,hE,cR,l1];rfl
  exact⟨by simp,rfl,rfl,by simp only [qcs,Aq,X2,au,hE,cR,l1]<;>rfl⟩
variable {tb:bI}
theorem mE {ts:List TypeId} {a b:Int}:aO tb .min ts [.int .i64 a,.int .i64 b]= .ok (.int .i64 (min a b)):=by
 have e:aO tb .min ts [.int .i64 a,.int .i64 b]= .ok (.int .i64 (bif nu b a then b else a)):=by cases ts<;>rfl
 rw [e,iF];by_cases h:b<a
 ·rw [decide_eq_true h,Int.min_eq_right (by omega)];rfl
 ·rw [decide_eq_false h,Int.min_eq_left (by omega)];rfl
theorem max_i64 {ts:List TypeId} {a b:Int}:aO tb .max ts [.int .i64 a,.int .i64 b]= .ok (.int .i64 (max a b)):=by
 have e:aO tb .max ts [.int .i64 a,.int .i64 b]= .ok (.int .i64 (bif nu a b then b else a)):=by cases ts<;>rfl
 rw [e,iF];by_cases h:a<b
 ·rw [decide_eq_true h,Int.max_eq_right (by omega)];rfl
 ·rw [decide_eq_false h,Int.max_eq_left (by omega)];rfl
theorem QY {ts:List TypeId} {a:Nat}:aO tb .max ts [.int .u64 a,.int .u64 b]= .ok (.int .u64 (max a b:Nat)):=by
 have e:aO tb .max ts [.int .u64 a,.int .u64 b]= .ok (.int .u64 (bif Ye a b then(b:Int) else(a:Int))):=by cases ts<;>rfl
 rw [e];cases h:Ye a b with
 |true=>
  have q:a<b:=by simpa [Yl] using h
  rw [qbG (by omega)];rfl
 |false=>
  have q:¬a<b:=by intro hx;rw [←Yl,h] at hx;cases hx
  rw [qcc (by omega)];rfl
theorem Tu (g:dM M):sk 173 oC wC M:=fun D i j s a hi hj=>by
 have hil:=(X_.1 hi).1;have hk:=HW g i (by omega);have hp:=I4 g hi hk j (by have:=(X_.1 hj).1;omega);have hc:=hk a.to ((g i s hi).2.2.1 a (YF hj));unfold MG at hp;rw [pI oC wC zI hj,hp,hc];generalize (if s.fin=true then 1 else 0)+(qb9 (fun a=>(ws M a.to).length) (List.take j s.arcs)).sum=p;generalize (ws M a.to).length=q;have a1:aN .add .i64 ((min p 100001:Nat):Int) ((min q 100001:Nat):Int)= .ok (.int .i64 (min p 100001+min q 100001:Nat)):=a9 (aR (by omega));have m1:=mE (tb:=ai) (ts:=[3,3]) (a:=((min p 100001+min q 100001:Nat):Int)) (b:=((100001:Nat):Int));have e:wC ((min p 100001:Nat):Int) ((min q 100001:Nat):Int) a.out=min ((min p 100001+min q 100001:Nat):Int) ((100001:Nat):Int):=by unfold wC;omega
 refine⟨D,?_,Kp.refl _⟩;unfold rU;rw [e];refine aT (aB Tryz.func173) (c:=Tryz.f173.body.getD .skip) (by kernel_rfl) (by rw [Tryz.ntmps173];simp) (by kernel_rfl) (by kernel_rfl) ?_;apply W.run 60
 ·intro M;simp (disch:=first|decide+kernel|omega) only [Tryz.f173,Aq,X2,a1,m1];rfl
 exact⟨by simp,rfl,rfl,by simp only [Tryz.f173,Aq,X2,a1,m1]<;>rfl⟩
theorem JT {k:Value} (h:eX A M y) (hk:k.cells.toList=[k]∧aJ k=true) (g:dM M) (hM:M≠ []) (hl:M.length<1000000) (hw:(ws M (M.length-1)).length≤100000):
 ∃v A',bL ai 124 [.agg ⟨[y,k]⟩] A v A'∧v= .tuple ⟨[.int .i64 (((ws M (M.length-1)).length:Nat):Int),.bool true]⟩∧Kp A A':=by
 have kB:=Kp.alloc A (aa 105 [y,k]);have vB:=aF A 105 [y,k];generalize hB:A.alloc (aa 105 [y,k])=B at kB vB;obtain⟨d,hd1,hd2⟩:=bA (t:=105) (p:=true) (by kernel_rfl);have lB:aq ai B.get 105 (pw A.next 0)= .ok (.agg ⟨[y,k]⟩):=aQ hd1 hd2 (l:=[y,k]) eD vB.2;obtain⟨v,C,⟨gc,hc⟩,rfl,kC⟩:=yE (h.kp kB) (k:=k) g hM hl UH (Tu g);have hpos:=YM.2 hM;have hv:=HW g M.length (X9 _) (M.length-1) (by omega);rw [Yw,Y4 (by omega)] at hv;rw [hv] at hc;unfold rU at hc;have hn:¬100000<(ws M (M.length-1)).length:=by omega
 refine⟨_,C,?_,rfl,kB.trans kC⟩;refine aT (aB Tryz.func124) (c:=Tryz.f124.body.getD .skip) (by kernel_rfl) (by rw [Tryz.ntmps124];simp) (by kernel_rfl) (by kernel_rfl) ?_;apply W.a6 (gc) 60
 ·intro M hM;simp (disch:=first|decide+kernel|omega) only [Tryz.f124,Aq,X2,au,hB,lB,mr,hc,bR,bw,hn];rfl
 exact⟨by simp,rfl,rfl,by simp only [Tryz.f124,Aq,X2,au,hB,lB,mr,hc,bR,bw,hn]<;>rfl⟩
def oL (s:bj):Int:=if s.fin then 0 else-1
def wL (x c:Int) (_:Nat):Int:=if c<0 then x else max x (c+1)
def GU (M:List bj) (i:Nat) (x:Int):Prop:=-1≤x∧x≤i∧(x=-1∨∃w∈ws M i,x=((w.1.length:Nat):Int))
theorem Ih (g:dM M) {s:bj} (h:M[i]?=some s) (hk:∀k,k<i→GU M k ((di oL wL zI (M.take i)).getD k zI)):∀j,j≤s.arcs.length→GU M i (jq oL wL zI (di oL wL zI (M.take i)) s j):=by
 refine rR (P:=fun _ x=>GU M i x) ?_ fun j a x hj hx=>?_
 ·unfold GU oL;cases hf:s.fin with
  |false=>exact⟨by simp,by simp only [Yj,if_false];omega,.inl rfl⟩
  |true=>exact⟨by simp,by simp,.inr ⟨([],s.out),by rw [pS g h,hf];simp,rfl⟩⟩
 ·have ha:=YF hj;have hto:=(g i s h).2.2.1 a ha;obtain⟨c1,c2,c3⟩:=hk a.to hto;obtain⟨x1,x2,x3⟩:=hx;generalize (di oL wL zI (M.take i)).getD a.to zI=c at*;unfold wL;split
  ·exact⟨x1,x2,x3⟩
  ·refine⟨by omega,by omega,?_⟩;rcases Int.le_total (c+1) x with hle|hle
   ·rw [Int.max_eq_left hle];exact x3
   ·rw [Int.max_eq_right hle];rcases c3 with h|⟨w,hw,hwl⟩
    ·omega
    ·refine .inr ⟨(a.byte::w.1,a.out+w.2),?_,by rw [hwl];simp⟩;rw [pS g h];exact ZV _ (qaf.2 ⟨a,ha,YN.2 ⟨w,hw,rfl⟩⟩)
theorem IY (g:dM M):∀i,i≤M.length→∀k,k<i→GU M k ((di oL wL zI (M.take i)).getD k zI):=
 rk (R:=GU M) fun i s h hk=>Ih g h hk s.arcs.length (X9 _)
theorem V_:B6 174 oL:=fun D x s=>by
 have v:=aF D 164 (cW x s);refine⟨D.alloc (aa 164 (cW x s)),?_,Kp.alloc _ _⟩;generalize hE:D.alloc (aa 164 (cW x s))=E at v;have l1:aq ai E.get 4 (.pointer (some ⟨D.next,0+1,none⟩))= .ok (.bool s.fin):=v.ld rfl u4 rfl;unfold rU oL;cases hf:s.fin with
 |true=>
  rw [hf] at l1;show bL ai 174 _ _ (.int .i64 (0:Nat)) _;refine aT (aB Tryz.func174) (c:=qcr.body.getD .skip) (by kernel_rfl) (by rw [Tryz.ntmps174];simp) (by kernel_rfl) (by kernel_rfl) ?_;apply W.run 60
  ·intro M;simp (disch:=first|decide+kernel|omega) only [qcr,Aq,X2,au,hE,cR,l1];rfl
  exact⟨by simp,rfl,rfl,by simp only [qcr,Aq,X2,au,hE,cR,l1]<;>rfl⟩
 |false=>
  rw [hf] at l1;show bL ai 174 _ _ (.int .i64 (-1)) _;refine aT (aB Tryz.func174) (c:=qcr.body.getD .skip) (by kernel_rfl) (by rw [Tryz.ntmps174];simp) (by kernel_rfl) (by kernel_rfl) ?_;apply W.run 60
  ·intro M;simp (disch:=first|decide+kernel|omega) only [qcr,Aq,X2,au,hE,cR,l1,BP];rfl
  exact⟨by simp,rfl,rfl,by simp only [qcr,Aq,X2,au,hE,cR,l1,BP]<;>rfl⟩
theorem SX (g:dM M) (hl:M.length<1000000):sk 175 oL wL M:=fun D i j s a hi hj=>by
 have hil:=(X_.1 hi).1;have hk:=IY g i (by omega);obtain⟨x1,x2,-⟩:=Ih g hi hk j (by have:=(X_.1 hj).1;omega);have hto:=(g i s hi).2.2.1 a (YF hj);obtain⟨c1,c2,-⟩:=hk a.to hto;rw [pI oL wL zI hj];generalize jq oL wL zI (di oL wL zI (M.take i)) s j=x at*;generalize (di oL wL zI (M.take i)).getD a.to zI=c at*;refine⟨D,?_,Kp.refl _⟩;unfold rU wL;by_cases h0:c<0
 ·have h1:c<((0:Nat):Int):=by simpa using h0
  rw [if_pos h0];refine aT (aB Tryz.func175) (c:=qct.body.getD .skip) (by kernel_rfl) (by rw [Tryz.ntmps175];simp) (by kernel_rfl) (by kernel_rfl) ?_;apply W.run 60
  ·intro M;simp (disch:=first|decide+kernel|omega) only [qct,Aq,X2,pH,h1];rfl
  exact⟨by simp,rfl,rfl,by simp only [qct,Aq,X2,pH,h1]<;>rfl⟩
 ·have h1:¬c<((0:Nat):Int):=by simpa using h0
  have a1:aN .add .i64 c ((1:Nat):Int)= .ok (.int .i64 (c+1)):=Ra (by omega) (by omega);have m1:=max_i64 (tb:=ai) (ts:=[3,3]) (a:=x) (b:=c+1);rw [if_neg h0];refine aT (aB Tryz.func175) (c:=qct.body.getD .skip) (by kernel_rfl) (by rw [Tryz.ntmps175];simp) (by kernel_rfl) (by kernel_rfl) ?_;apply W.run 60
  ·intro M;simp (disch:=first|decide+kernel|omega) only [qct,Aq,X2,pH,h1,a1,m1];rfl
  exact⟨by simp,rfl,rfl,by simp only [qct,Aq,X2,pH,h1,a1,m1]<;>rfl⟩
theorem DL {k:Value} (h:eX A M y) (g:dM M) (hM:M≠ []) (hl:M.length<1000000):
 ∃v A',bL ai 126 [.agg ⟨[y,k]⟩] A v A'∧Kp A A'∧∃x,v= .int .i64 x∧GU M (M.length-1) x:=by
 have kB:=Kp.alloc A (aa 105 [y,k]);have vB:=aF A 105 [y,k];generalize hB:A.alloc (aa 105 [y,k])=B at kB vB;have hS:=h.kp kB;obtain⟨d,hd1,hd2⟩:=bA (t:=105) (p:=true) (by kernel_rfl);have lB:aq ai B.get 105 (pw A.next 0)= .ok (.agg ⟨[y,k]⟩):=aQ hd1 hd2 (l:=[y,k]) eD vB.2;have ly:aq ai B.get 102 (pw A.next 0)= .ok y:=vB.ld rfl fX rfl;have cz:=hS.len;obtain⟨v,C,⟨gc,hc⟩,rfl,kC⟩:=yE hS (k:=k) g hM hl V_ (SX g hl);have hpos:=YM.2 hM;have hv:=IY g M.length (X9 _) (M.length-1) (by omega);rw [Yw] at hv;have hn:¬M.length=0:=by omega
 refine⟨_,C,?_,kB.trans kC,_,rfl,hv⟩;unfold rU at hc;refine aT (aB Tryz.func126) (c:=Tryz.f126.body.getD .skip) (by kernel_rfl) (by rw [Tryz.ntmps126];simp) (by kernel_rfl) (by kernel_rfl) ?_;apply W.a6 (gc) 60
 ·intro M hM;simp (disch:=first|decide+kernel|omega) only [Tryz.f126,Aq,X2,au,hB,dc,ly,cz,lB,mr,hc,hn];rfl
 exact⟨by simp,rfl,rfl,by simp only [Tryz.f126,Aq,X2,au,hB,dc,ly,cz,lB,mr,hc,hn]<;>rfl⟩
def oG (s:bj):dO:=⟨s.out,true,s.fin⟩
def Lp (m x:dO):dO:=if m.any then⟨max m.n x.n,m.fits&&x.fits,true⟩ else x
def wG (x c:dO) (out:Nat):dO:=Lp x ⟨c.n+out,c.fits,c.any⟩
def LJ (M:List bj) (i:Nat) (x:dO):Prop:=x.fits=true∧(x.any=true→∃w∈ws M i,w.2=x.n)
theorem Eh (g:dM M) {s:bj} {a:cO} {w:List UInt8×Nat} (h:M[i]?=some s) (ha:a∈s.arcs) (hw:w∈ws M a.to):(a.byte::w.1,a.out+w.2)∈ws M i:=by
 rw [pS g h];exact ZV _ (qaf.2 ⟨a,ha,YN.2 ⟨w,hw,rfl⟩⟩)
theorem HU (g:dM M) {s:bj} (h:M[i]?=some s) (hk:∀k,k<i→LJ M k ((di oG wG zG (M.take i)).getD k zG)∧((di oG wG zG (M.take i)).getD k zG).any=true):
 ∀j,j≤s.arcs.length→LJ M i (jq oG wG zG (di oG wG zG (M.take i)) s j)∧((s.fin=true∨0<j)→(jq oG wG zG (di oG wG zG (M.take i)) s j).any=true):=by
 refine rR (P:=fun j x=>LJ M i x∧((s.fin=true∨0<j)→x.any=true)) ?_ fun j a x hj hx=>?_
 ·refine⟨⟨rfl,fun hf=>⟨([],s.out),?_,rfl⟩⟩,fun hf=>?_⟩
  ·have hf:s.fin=true:=hf;rw [pS g h,hf];simp
  ·rcases hf with hf|hf
   ·exact hf
   ·omega
 ·have ha:=YF hj;obtain⟨⟨c1,c2⟩,c3⟩:=hk a.to ((g i s h).2.2.1 a ha);obtain⟨w,hw,hwn⟩:=c2 c3;obtain⟨⟨x1,x2⟩,-⟩:=hx;have hm:=Eh g h ha hw;generalize (di oG wG zG (M.take i)).getD a.to zG=c at*;unfold wG Lp;cases hx:x.any with
  |false=>
   refine⟨⟨c1,fun _=>⟨_,hm,?_⟩⟩,fun _=>c3⟩;show a.out+w.2=c.n+a.out;omega
  |true=>
   refine⟨⟨?_,fun _=>?_⟩,fun _=>rfl⟩
   ·show(x.fits&&c.fits)=true;rw [x1,c1];rfl
   ·rcases qbT x.n (c.n+a.out) with hle|hle
    ·exact⟨_,hm,by show a.out+w.2=max x.n (c.n+a.out);rw [qbG hle];omega⟩
    ·obtain⟨w',h1,h2⟩:=x2 hx;exact⟨w',h1,by show w'.2=max x.n (c.n+a.out);rw [qcc hle];exact h2⟩
theorem Io (g:dM M):∀i,i≤M.length→∀k,k<i→LJ M k ((di oG wG zG (M.take i)).getD k zG)∧((di oG wG zG (M.take i)).getD k zG).any=true:=
 rk (R:=fun k v=>LJ M k v∧v.any=true) fun i s h hk=>by
  obtain⟨h1,h2⟩:=HU g h hk s.arcs.length (X9 _);refine⟨h1,h2 ?_⟩;rcases(g i s h).2.2.2.1 with hf|hf
  ·exact .inl hf
  ·exact .inr (YM.2 hf)
theorem nY:ax ai 259 (pw b 0) 0= .ok (pw b 0):=by kernel_rfl
theorem ou:ax ai 259 (pw b 0) 1= .ok (pw b 2):=by kernel_rfl
theorem pA:ax ai 257 (pw b 0) 0= .ok (pw b 0):=by kernel_rfl
theorem wq:ax ai 257 (pw b 0) 1= .ok (pw b 1):=by kernel_rfl
theorem Wk:aY ai 257= .ok 2:=by kernel_rfl
theorem nc:b7 ai 259= .ok (.agg ⟨bQ zG⟩):=by kernel_rfl
theorem tZ {x:Int} {f:Bool}:cr ai 257 [(0,.int .u64 x),(1,.bool f)]= .ok (.agg ⟨[.int .u64 x,.bool f]⟩):=by kernel_rfl
theorem zK {x:Int} {f a:Bool}:cr ai 259 [(0,.agg ⟨[.int .u64 x,.bool f]⟩),(1,.bool a)]= .ok (.agg ⟨[.int .u64 x,.bool f,.bool a]⟩):=by kernel_rfl
theorem Mb {k:Kd} {m:dO} (h:dD A 259 b k (bQ m)):aq ai A.get 257 (pw b 0)= .ok (.agg ⟨[.int .u64 m.n,.bool m.fits]⟩):=by
 obtain⟨c,h1,h2⟩:=h;obtain⟨d,hd1,hd2⟩:=bA (t:=257) (p:=true) (by kernel_rfl);have hg:c.ji 2 0=some [.int .u64 m.n,.bool m.fits]:=gL _ _ _ _ rfl fun j hj=>by
  have:j=0∨j=1:=by omega
  rcases this with rfl|rfl
  ·exact h2 0 (by simp [bQ])
  ·exact h2 1 (by simp [bQ])
 unfold aq;simp only [h1,hd1,hd2,cond_true,Wk,R.aA,hg]
theorem R6 {k:Kd} {m:dO} {f:Bool} (h:dD A 259 b k (bQ m)):∃A',aW ai A 257 (pw b 0) (.agg ⟨[.int .u64 n,.bool f]⟩)= .ok A'∧dD A' 259 b k (bQ ⟨n,f,m.any⟩)∧A'.next=A.next∧∀z,z≠b→A'.get z=A.get z:=by
 obtain⟨A',h1,h2,h3,h4⟩:=h.put (o:=0) (vs:=[.int .u64 n,.bool f]) (by simp [aJ]) (by simp [bQ]) (by simp);refine⟨A',?_,h4 _ rfl fun j hj=>?_,h2,h3⟩
 ·unfold aW;simp only [Wk,R.aA,au];exact h1
 ·have:j=0∨j=1∨j=2:=by simp [bQ] at hj;omega
  rcases this with rfl|rfl|rfl<;>simp [bQ]
theorem Uy {k:Kd} {m:dO} (h:dD A 259 b k (bQ m)):aq ai A.get 259 (pw b 0)= .ok (.agg ⟨bQ m⟩):=by
 obtain⟨d,hd1,hd2⟩:=bA (t:=259) (p:=true) (by kernel_rfl);exact aQ hd1 hd2 vT h
theorem Vw:GO 177 oG:=fun D x s=>by
 have k1:=Kp.alloc D (aa 164 (cW x s));have v1:=aF D 164 (cW x s);have n1:(D.alloc (aa 164 (cW x s))).next=D.next+1:=ae _ _
 generalize hB:D.alloc (aa 164 (cW x s))=B at v1 n1 k1;have k2:=Kp.alloc B (aa 259 (bQ zG));have v2:=aF B 259 (bQ zG);have v1:=v1.kp k2;have n2:(B.alloc (aa 259 (bQ zG))).next=B.next+1:=ae _ _
 generalize hC:B.alloc (aa 259 (bQ zG))=C at v1 v2 k2 n2;have l1:aq ai C.get 4 (pw D.next (0+1))= .ok (.bool s.fin):=v1.ld rfl u4 rfl;have l2:aq ai C.get 103 (pw D.next (0+2))= .ok (.int .u64 s.out):=v1.ld rfl ff rfl;obtain⟨E,sE,vE,nE,fE⟩:=bx (tb:=ai) (t:=259) (l':=bQ (oG s)) (by exact vT) v2.2 rfl (by simp [bQ]) (Gw _);have sE':aW ai C 259 (pw B.next 0) (.agg ⟨[.int .u64 s.out,.bool true,.bool s.fin]⟩)= .ok E:=sE;have lE:aq ai E.get 259 (pw B.next 0)= .ok (j6 (oG s)):=Uy vE;refine⟨E,?_,⟨by omega,fun z hz=>by rw [fE z (by omega),k2.2 z (by omega),k1.2 z hz]⟩⟩;refine aT (aB Tryz.func177) (c:=Tryz.f177.body.getD .skip) (by kernel_rfl) (by rw [Tryz.ntmps177];simp) (by kernel_rfl) (by kernel_rfl) ?_;apply W.run 60
 ·intro M;simp (disch:=first|decide+kernel|omega) only [Tryz.f177,Aq,X2,au,hB,hC,nc,cR,iW,l1,l2,tZ,zK,sE',lE];rfl
 exact⟨by simp,rfl,rfl,by simp only [Tryz.f177,Aq,X2,au,hB,hC,nc,cR,iW,l1,l2,tZ,zK,sE',lE]<;>rfl⟩
theorem Ul {m x:dO} (h:x.any=true):∃A',bL ai 180 [j6 m,j6 x] A (j6 (Lp m x)) A'∧Kp A A':=by
 have k1:=Kp.alloc A (aa 259 (bQ m));have v1:=aF A 259 (bQ m);have n1:(A.alloc (aa 259 (bQ m))).next=A.next+1:=ae _ _
 generalize hB:A.alloc (aa 259 (bQ m))=B at v1 n1 k1;have k2:=Kp.alloc B (aa 259 (bQ x));have v2:=aF B 259 (bQ x);have v1:=v1.kp k2;have n2:(B.alloc (aa 259 (bQ x))).next=B.next+1:=ae _ _
 generalize hC:B.alloc (aa 259 (bQ x))=C at v1 v2 k2 n2;have k3:=Kp.alloc C (aa 259 (bQ zG));have v3:=aF C 259 (bQ zG);have v1:=v1.kp k3;have v2:=v2.kp k3;have n3:(C.alloc (aa 259 (bQ zG))).next=C.next+1:=ae _ _
 generalize hD:C.alloc (aa 259 (bQ zG))=D at v1 v2 v3 k3 n3;have kD:=k1.trans (k2.trans k3);obtain⟨E,sE,vE,nE,fE⟩:=bx (tb:=ai) (t:=259) (l':=bQ (Lp m x)) (by exact vT) v3.2 rfl (by simp [bQ]) (Gw _);have lE:aq ai E.get 259 (.pointer (some ⟨C.next,0,none⟩))= .ok (j6 (Lp m x)):=Uy vE;have a1:aq ai D.get 4 (.pointer (some ⟨A.next,2,none⟩))= .ok (.bool m.any):=v1.ld rfl u4 rfl;have a2:aq ai D.get 4 (.pointer (some ⟨B.next,2,none⟩))= .ok (.bool x.any):=v2.ld rfl u4 rfl;have kE:Kp A E:=⟨by omega,fun z hz=>by rw [fE z (by omega),kD.2 z hz]⟩;refine⟨E,?_,kE⟩;rw [h] at a2;cases hm:m.any with
 |false=>
  rw [hm] at a1;have lx:aq ai D.get 259 (.pointer (some ⟨B.next,0,none⟩))= .ok (.agg ⟨bQ (Lp m x)⟩):=by
   have e:Lp m x=x:=by unfold Lp;rw [hm];rfl
   rw [e];exact Uy v2.2
  unfold j6 at*;refine aT (aB Tryz.func180) (c:=qby.body.getD .skip) (by kernel_rfl) (by rw [Tryz.ntmps180];simp) (by kernel_rfl) (by kernel_rfl) ?_;apply W.run 60
  ·intro M;simp (disch:=first|decide+kernel|omega) only [qby,Aq,X2,au,hB,hC,hD,nc,ou,a1,a2,lx,sE,lE];rfl
  exact⟨by simp,rfl,rfl,by simp only [qby,Aq,X2,au,hB,hC,hD,nc,ou,a1,a2,lx,sE,lE]<;>rfl⟩
 |true=>
  rw [hm] at a1;have b1:aq ai D.get 103 (.pointer (some ⟨A.next,0,none⟩))= .ok (.int .u64 m.n):=v1.ld rfl ff rfl;have b2:aq ai D.get 103 (.pointer (some ⟨B.next,0,none⟩))= .ok (.int .u64 x.n):=v2.ld rfl ff rfl;have d1:aq ai D.get 4 (.pointer (some ⟨A.next,1,none⟩))= .ok (.bool m.fits):=v1.ld rfl u4 rfl;have d2:aq ai D.get 4 (.pointer (some ⟨B.next,1,none⟩))= .ok (.bool x.fits):=v2.ld rfl u4 rfl;have mx:=QY (tb:=ai) (ts:=[103,103]) (a:=m.n) (b:=x.n);have e:Lp m x=⟨max m.n x.n,m.fits&&x.fits,true⟩:=by unfold Lp;rw [hm];rfl
  rw [e] at sE lE⊢;have sE':aW ai D 259 (.pointer (some ⟨C.next,0,none⟩)) (.agg ⟨[.int .u64 (max m.n x.n:Nat),.bool (m.fits&&x.fits),.bool true]⟩)= .ok E:=sE;unfold j6 at*;cases hf:m.fits with
  |false=>
   rw [hf] at d1;simp only [hf,qa1] at sE';rw [hf] at lE;refine aT (aB Tryz.func180) (c:=qby.body.getD .skip) (by kernel_rfl) (by rw [Tryz.ntmps180];simp) (by kernel_rfl) (by kernel_rfl) ?_;apply W.run 60
   ·intro M;simp (config:={maxSteps:=4000000}) (disch:=first|decide+kernel|omega|simp only [Wq,X2]) only [qby,Aq,X5,reduceIte,X2,X3,au,hB,hC,hD,nc,nY,ou,pA,wq,a1,a2,b1,b2,d1,d2,mx,tZ,zK,sE',lE];rfl
   exact⟨by simp,rfl,rfl,by simp only [qby,Aq,X5,reduceIte,X2,X3,au,hB,hC,hD,nc,nY,ou,pA,wq,a1,a2,b1,b2,d1,d2,mx,tZ,zK,sE',lE]<;>rfl⟩
  |true=>
   rw [hf] at d1;simp only [hf,ZK] at sE';rw [hf] at lE;refine aT (aB Tryz.func180) (c:=qby.body.getD .skip) (by kernel_rfl) (by rw [Tryz.ntmps180];simp) (by kernel_rfl) (by kernel_rfl) ?_;apply W.run 60
   ·intro M;simp (config:={maxSteps:=4000000}) (disch:=first|decide+kernel|omega|simp only [Wq,X2]) only [qby,Aq,X5,reduceIte,X2,X3,au,hB,hC,hD,nc,nY,ou,pA,wq,a1,a2,b1,b2,d1,d2,mx,tZ,zK,sE',lE];rfl
   exact⟨by simp,rfl,rfl,by simp only [qby,Aq,X5,reduceIte,X2,X3,au,hB,hC,hD,nc,nY,ou,pA,wq,a1,a2,b1,b2,d1,d2,mx,tZ,zK,sE',lE]<;>rfl⟩
theorem TQ (g:Sto.Good M):wM 178 oG wG M:=fun D i j s a hi hj=>by
 have hil:=(X_.1 hi).1;have hk:=Io g.1 i (by omega);obtain⟨⟨x1,x2⟩,x3⟩:=HU g.1 hi hk j (by have:=(X_.1 hj).1;omega);have ha:=YF hj;obtain⟨⟨c1,c2⟩,c3⟩:=hk a.to ((g.1 i s hi).2.2.1 a ha);obtain⟨w,hw,hwn⟩:=c2 c3;have hle:=g.2.2 i hil _ (Eh g.1 hi ha hw);rw [pI oG wG zG hj];generalize jq oG wG zG (di oG wG zG (M.take i)) s j=x at*;generalize (di oG wG zG (M.take i)).getD a.to zG=c at*;have hs:c.n+a.out<18446744073709551616:=by
  have:a.out+w.2≤4294967296:=hle;omega
 have k1:=Kp.alloc D (aa 259 (bQ x));have v1:=aF D 259 (bQ x);have n1:(D.alloc (aa 259 (bQ x))).next=D.next+1:=ae _ _
 generalize hB:D.alloc (aa 259 (bQ x))=B at v1 n1 k1;have k2:=Kp.alloc B (aa 259 (bQ c));have v2:=aF B 259 (bQ c);have v1:=v1.kp k2;have n2:(B.alloc (aa 259 (bQ c))).next=B.next+1:=ae _ _
 generalize hC:B.alloc (aa 259 (bQ c))=C at v1 v2 k2 n2;have k3:=Kp.alloc C (aa 259 (bQ zG));have v3:=aF C 259 (bQ zG);have v1:=v1.kp k3;have v2:=v2.kp k3;have n3:(C.alloc (aa 259 (bQ zG))).next=C.next+1:=ae _ _
 generalize hD:C.alloc (aa 259 (bQ zG))=E at v1 v2 v3 k3 n3;have l1:=Mb v2.2;have ka:=fun ih A=>Ve (ih:=ih) (A:=A) (f:=c.fits) hs
 obtain⟨F,sF,vF,nF,fF⟩:=R6 (n:=c.n+a.out) (f:=c.fits) v2.2;have lx:aq ai F.get 259 (pw D.next 0)= .ok (j6 x):=Uy (v1.2.same (fF _ (by omega)));have lc:aq ai F.get 259 (pw B.next 0)= .ok (j6 ⟨c.n+a.out,c.fits,c.any⟩):=Uy vF;obtain⟨G,⟨go,hgo⟩,kG⟩:=Ul (A:=F) (m:=x) (x:=⟨c.n+a.out,c.fits,c.any⟩) c3;obtain⟨H,sH,vH,nH,fH⟩:=bx (tb:=ai) (t:=259) (l':=bQ (Lp x ⟨c.n+a.out,c.fits,c.any⟩)) (by exact vT) (A:=G) (v3.2.same (by rw [kG.2 _ (by omega),fF _ (by omega)])) rfl (by simp [bQ]) (Gw _);have lH:aq ai H.get 259 (pw C.next 0)= .ok (j6 (wG x c a.out)):=Uy vH;have nG:=kG.1;refine⟨H,?_,⟨by omega,fun z hz=>by rw [fH z (by omega),kG.2 z (by omega),fF z (by omega),k3.2 z (by omega),k2.2 z (by omega),k1.2 z hz]⟩⟩;have sH':aW ai G 259 (pw C.next 0) (j6 (Lp x ⟨c.n+a.out,c.fits,c.any⟩))= .ok H:=sH;unfold j6 at*;refine aT (aB Tryz.func178) (c:=Tryz.f178.body.getD .skip) (by kernel_rfl) (by rw [Tryz.ntmps178];simp) (by kernel_rfl) (by kernel_rfl) ?_;apply W.a6 (go) 60
 ·intro M hM;simp (disch:=first|decide+kernel|omega) only [Tryz.f178,Aq,X2,au,hB,hC,hD,nc,nY,l1,ka,sF,lx,lc,hgo,sH',lH];rfl
 exact⟨by simp,rfl,rfl,by simp only [Tryz.f178,Aq,X2,au,hB,hC,hD,nc,nY,l1,ka,sF,lx,lc,hgo,sH',lH]<;>rfl⟩
variable {k:Nat}
theorem Cs (h:eX A M y) (g:Sto.Good M) (hM:M≠ []) (hl:M.length<1000000) (hk:∀w∈ws M (M.length-1),w.2+k≤4294967296):
 ∃v A',bL ai 129 [.agg ⟨[y,.int .u64 k]⟩] A v A'∧Kp A A'∧∃n:Nat,v= .tuple ⟨[.int .u64 n,.bool true]⟩:=by
 have kB:=Kp.alloc A (aa 105 [y,.int .u64 k]);have vB:=aF A 105 [y,.int .u64 k];have nB:(A.alloc (aa 105 [y,.int .u64 k])).next=A.next+1:=ae _ _
 generalize hB:A.alloc (aa 105 [y,.int .u64 k])=B at kB vB nB;obtain⟨d,hd1,hd2⟩:=bA (t:=105) (p:=true) (by kernel_rfl);have lB:aq ai B.get 105 (pw A.next 0)= .ok (.agg ⟨[y,.int .u64 k]⟩):=aQ hd1 hd2 (l:=[y,.int .u64 k]) eD vB.2;obtain⟨v,C,⟨gc,hc⟩,rfl,kC⟩:=G4 (h.kp kB) (k:=.int .u64 k) g.1 hM hl Vw (TQ g);have hpos:=YM.2 hM;obtain⟨⟨c1,c2⟩,c3⟩:=Io g.1 M.length (X9 _) (M.length-1) (by omega);rw [Yw] at c1 c2 c3;generalize (di oG wG zG M).getD (M.length-1) zG=m at*;obtain⟨w,hw,hwn⟩:=c2 c3;have hle:=hk w hw;have k3:=Kp.alloc C (aa 259 (bQ m));have v3:=aF C 259 (bQ m);have sD:aW ai (C.alloc (aa 259 (bQ zG))) 259 (pw C.next 0) (j6 m)= .ok (C.alloc (aa 259 (bQ m))):=bn vT rfl rfl (by simp [bQ]) (Gw _);generalize hD:C.alloc (aa 259 (bQ m))=D at k3 v3 sD;have l1:=Mb v3.2;have ka:=fun ih A=>Ve (ih:=ih) (A:=A) (f:=m.fits) (n:=m.n) (m:=k) (by omega)
 obtain⟨F,sF,vF,nF,fF⟩:=R6 (n:=m.n+k) (f:=m.fits) v3.2;have l2:aq ai D.get 103 (pw A.next (0+1))= .ok (.int .u64 k):=(vB.kp (kC.trans k3)).ld rfl ff rfl;have l3:aq ai F.get 4 (pw C.next 2)= .ok (.bool m.any):=bf u4 rfl vF rfl;have l4:=Mb vF;have l5:aq ai F.get 103 (pw C.next 0)= .ok (.int .u64 (m.n+k:Nat)):=bf ff rfl vF rfl;have ks:=fun ih A=>TD (ih:=ih) (A:=A) (n:=m.n+k) (f:=m.fits)
 rw [c1,decide_eq_true (by omega)] at ks;rw [c3] at l3;rw [c1] at ka sF l1 l4;have nC:=kC.1;have nD:=k3.1;refine⟨_,F,?_,⟨by omega,fun z hz=>by rw [fF z (by omega),k3.2 z (by omega),kC.2 z (by omega),kB.2 z hz]⟩,m.n+k,rfl⟩;unfold j6 at*;simp only [qau] at ks;refine aT (aB Tryz.func129) (c:=Tryz.f129.body.getD .skip) (by kernel_rfl) (by rw [Tryz.ntmps129];simp) (by kernel_rfl) (by kernel_rfl) ?_;apply W.a6 (gc) 60
 ·intro M hM;simp (config:={maxSteps:=4000000}) (disch:=first|decide+kernel|omega|simp only [Wq,X2]) only [Tryz.f129,Aq,X5,reduceIte,X2,X3,au,hB,lB,mr,hc,nc,sD,nY,ou,pA,G6,l1,l2,ka,sF,l3,l4,ks,l5];rfl
 exact⟨by simp,rfl,rfl,by simp only [Tryz.f129,Aq,X5,reduceIte,X2,X3,au,hB,lB,mr,hc,nc,sD,nY,ou,pA,G6,l1,l2,ka,sF,l3,l4,ks,l5]<;>rfl⟩
def fu (p:Nat×Nat):List Value:=[.int .i64 p.1,.int .i64 p.2]
theorem J2:ai.bp 298=some (.slice 297):=by kernel_rfl
theorem VS:aY ai 297= .ok 2:=by kernel_rfl
theorem N4:cq ai 297= .ok (2,[.int .i64 0,.int .i64 0]):=by kernel_rfl
theorem Vr:∃i,ai.ty.get 297=some i∧0<i.bytes∧i.bytes≤65536:=by
 have h:((ai.ty.get 297).map fun i=>i.bytes)=some 16:=by kernel_rfl
 cases hq:ai.ty.get 297 with
 |none=>rw [hq] at h;cases h
 |some i=>
  rw [hq] at h;have:i.bytes=16:=by simpa using h
  exact⟨i,rfl,by omega,by omega⟩
def zj (A:Mem) (b:Nat) (P:List (Nat×Nat)) (x:Value):Prop:=∃(Q:List (Nat×Nat)) (c:Nat) (k:Kd),x= .slice (some ⟨b,0,none⟩) P.length c∧b<A.next∧dD A 297 b k (Q.map fu).flatten∧bN c=Q.length∧P.length≤Q.length∧Q.take P.length=P∧(eA c=true∨(eA c=false∧iQ c=2∧k= .row))
variable {A':Mem} {P:List (Nat×Nat)}
theorem zj.same {x:Value} (h:zj A b P x) (hn:A.next≤A'.next) (hg:A'.get b=A.get b):zj A' b P x:=by
 obtain⟨Q,c,k,h1,h2,h3,h4⟩:=h;exact⟨Q,c,k,h1,Yt h2 hn,h3.same hg,h4⟩
theorem zj.len {x:Value} (h:zj A b P x):aO ai .len [298] [x]= .ok (.int .i64 (P.length:Nat)):=by
 obtain⟨Q,c,k,rfl,-⟩:=h;exact dJ J2
theorem zj.idx {x:Value} (h:zj A b P x) (hi:i<P.length):aZ ai 298 x (.int .i64 i)= .ok (pw b (i*2)):=by
 obtain⟨Q,c,k,rfl,-⟩:=h;have hb:Ye i P.length=true:=by rw [Yl];exact hi
 have hn:lP (.int .i64 i)= .ok i:=rfl;unfold aZ;simp only [hn,J2,hb,cond_true,VS,R.aA,jh,Yy]
theorem fY (Q:List (Nat×Nat)):∀l∈Q.map fu,l.length=2:=fun l hl=>by
 obtain⟨_,_,rfl⟩:=YN.1 hl;rfl
theorem zj.at {x:Value} {p:Nat×Nat} (h:zj A b P x) (hi:P[i]?=some p):aq ai A.get 3 (pw b (i*2))= .ok (.int .i64 p.1)∧aq ai A.get 3 (pw b (i*2+1))= .ok (.int .i64 p.2):=by
 obtain⟨Q,c,k,rfl,h2,h3,h4,h5,h6,h7⟩:=h;have hil:=(X_.1 hi).1;have hr:(Q.map fu)[i]?=some (fu p):=by
  rw [Yr,show Q[i]?=some p by rw [←hi,←h6,qah,if_pos hil]];rfl
 exact⟨bf u3 rfl h3 (by have:=eR (fY Q) hr (j:=0) (by omega);rw [YU] at this;rw [this];rfl),bf u3 rfl h3 (by rw [eR (fY Q) hr (j:=1) (by omega)];rfl)⟩
theorem zj.XM {x:Value} {p:Nat×Nat} (h:zj A b P x) (hi:P[i]?=some p):∃A',aW ai A 3 (pw b (i*2+1)) (.int .i64 n)= .ok A'∧zj A' b (P.set i (p.1,n)) x∧A'.next=A.next∧∀z,z≠b→A'.get z=A.get z:=by
 obtain⟨Q,c,k,rfl,h2,h3,h4,h5,h6,h7⟩:=h;have hil:=(X_.1 hi).1;have hri:Q[i]?=some p:=by rw [←hi,←h6,qah,if_pos hil]
 have hr:(Q.map fu)[i]?=some (fu p):=by rw [Yr,hri];rfl
 have hlen:=db (fY Q);have hlt:=Jb (fY Q) (i:=i) (j:=1) (by rw [Yb];omega) (by omega);obtain⟨A',e1,e2,e3,e4⟩:=a_ (tb:=ai) (t:=3) (v:=.int .i64 n) Q5 h3 hlt rfl rfl;refine⟨A',e1,⟨Q.set i (p.1,n),c,k,by rw [YG],by omega,?_,by rw [YG];exact h4,by rw [YG,YG];exact h5,by rw [YG,List.take_set,h6],h7⟩,e3,e4⟩;rw [show((Q.set i (p.1,n)).map fu).flatten=(Q.map fu).flatten.set (i*2+1) (.int .i64 n) from ?_]
 ·exact e2
 ·refine List.ext_getElem? fun j=>?_
  rw [qbW];by_cases hj:j<(Q.map fu).flatten.length
  ·rw [sZ (fY Q) rfl (by rw [Yb];omega) j hj,Zn];by_cases h0:j=i*2
   ·subst h0;have:=eR (fY Q) hr (j:=0) (by omega);rw [YU] at this;rw [if_pos (by omega),if_neg (by omega),this,Zg];rfl
   ·by_cases h1:j=i*2+1
    ·subst h1;rw [if_pos (by omega),if_pos rfl,if_pos hlt,show i*2+1-i*2=1 by omega];rfl
    ·rw [if_neg (by omega),if_neg (by omega)]
  ·have e:(((Q.map fu).set i (fu (p.1,n))).flatten).length=(Q.map fu).flatten.length:=by
    rw [hlen,db (n:=2) (fun l hl=>by
     rcases Zw hl with hl|rfl
     ·exact fY Q l hl
     ·rfl),YG]
   rw [YR (by omega),YR (by rw [YG];omega)]
theorem zj.push {b2:Nat} {x:Value} {p:Nat×Nat} (h:zj A b P x) (hb2:A.get b2=some (aa 297 (fu p))) (hl:P.length<1000000):
 ∃x' A' b',bk ai A 298 298 x (.slice (some ⟨b2,0,none⟩) 1 2)= .ok (x',A')∧zj A' b' (P++[p]) x'∧(b'=b∨b'=A.next)∧A.next≤A'.next∧∀y,y≠b→y<A.next→A'.get y=A.get y:=by
 obtain⟨Q,c,k,rfl,h2,h3,h4,h5,h6,h7⟩:=h;have hnew:gX A.get 2 1 (.slice (some ⟨b2,0,none⟩) 1 2)= .ok (fu p):=by
  have:=ek (n:=2) (m:=1) (ee (e:=297) (k:=.var (fu p).length) hb2) rfl;exact this
 have h1c:∀v∈fu p,aJ v=true:=by simp [fu,aJ]
 have hlen:=db (fY Q);rw [Yb] at hlen;obtain⟨ti,t1,t2,t3⟩:=Vr;by_cases hroom:P.length+1≤Q.length
 ·obtain⟨A',e1,e2,e3,e4⟩:=h3.put (o:=P.length*2) (vs:=fu p) h1c (by rw [hlen];simp [fu];omega) (by simp [fu]);have hble:X5 (P.length+1) (bN c)=true:=YY (by omega);refine⟨.slice (some ⟨b,0,none⟩) (P.length+1) c,A',b,?_,⟨Q.set P.length p,c,k,by rw [X'];rfl,by omega,?_,by rw [YG];exact h4,by rw [YG,X'];exact hroom,?_,h7⟩,.inl rfl,by omega,fun y hy _=>e3 y hy⟩
  ·unfold bk cU;simp only [J2,gu,cond_false,N4,R.aA,jC,hnew,hble,cond_true,jh,Yy,e1]
  ·refine e4 _ ?_ fun j hj=>?_
   ·rw [hlen,db (fY _),Yb,YG]
   ·rw [qbW,sZ (fY Q) rfl (by rw [Yb];omega) j hj];rfl
  ·rw [X',Y9,Yd (by rw [YG];omega),List.take_set_of_le (X9 _),h6,List.getElem_set_self]
 ·have hRP:Q=P:=by rw [←h6,Zt (by omega)]
  have hble:X5 (P.length+1) (bN c)=false:=by
   cases hq:X5 (P.length+1) (bN c) with
   |false=>rfl
   |true=>have:=Yx hq;omega
  have hlim:(X5 (P.length+1) 16777216&&X5 ti.bytes 65536&&Ye 0 ti.bytes&&Ye 0 2&&Ye 2 65536)=true:=by
   have a1:X5 (P.length+1) 16777216=true:=YY (by omega);have a2:X5 ti.bytes 65536=true:=YY t3;have a3:Ye 0 ti.bytes=true:=by rw [Yl];exact t2
   rw [a1,a2,a3];rfl
  have hel:c_ A.get 2 P.length (some ⟨b,0,none⟩)= .ok (Q.map fu).flatten:=ek h3 (by rw [hlen,hRP]);have fin:∀A0:Mem,A0.next=A.next→zj (A0.alloc (.cells 297 .row 0 (T.bJ .e 0 ((Q.map fu).flatten++fu p)))) A.next (P++[p]) (.slice (some ⟨A.next,0,none⟩) (P.length+1) (fe (P.length+1) 2)):=fun A0 hn=>
   ⟨P++[p],fe (P.length+1) 2,.row,by rw [X'];rfl,by rw [ae];omega,by rw [YV,List.flatten_append,←hRP];simp only [ZB,qbV,qaR,List.flatten_nil,Y'];exact ee (by rw [←hn];exact aD _ _),by rw [cm (by omega),X'];rfl,X9 _,Yw,.inr ⟨cH _ _,dG (by omega),rfl⟩⟩
  rcases h7 with hx|⟨hx,he,rfl⟩
  ·refine⟨_,A.alloc (.cells 297 .row 0 (T.bJ .e 0 ((Q.map fu).flatten++fu p))),A.next,?_,fin A rfl,.inr rfl,by rw [ae];omega,fun y _ hlt=>aH (by omega)⟩;unfold bk cU;simp only [J2,gu,cond_false,N4,R.aA,jC,hnew,hble,t1,hlim,cond_true,hel,hx]
  ·obtain⟨cs,q1,q2⟩:=h3;have hone:(fu p).all aJ=true:=Ze.2 h1c;have hbe:Yc (iQ c) 2=true:=by rw [he];rfl
   have hfz:(X5 0 (0+P.length*2)&&(Yc 297 297&&Ye 0 9223372036854775808))=true:=by
    have h0:Ye 0 9223372036854775808=true:=by rw [Yl];omega
    rw [h0];simp
   refine⟨_,(A.set b .dead).alloc (.cells 297 .row 0 (T.bJ .e 0 ((Q.map fu).flatten++fu p))),A.next,?_,fin (A.set b .dead) (aX _ _ _),.inr rfl,by rw [ae,aX];omega,fun y hy hlt=>by rw [aH (by rw [aX];omega),aL,if_neg hy]⟩;unfold bk cU;simp only [J2,gu,cond_false,N4,R.aA,jC,hnew,hble,t1,hlim,cond_true,hel,hx,hbe,hone,qau,q1,hfz]
theorem zj.pop {x:Value} {p:Nat×Nat} (h:zj A b (P++[p]) x):∃x',dj ai 298 x none (some (.int .i64 (P.length:Nat))) none= .ok x'∧zj A b P x':=by
 obtain⟨Q,c,k,rfl,h2,h3,h4,h5,h6,h7⟩:=h;rw [X',Y9] at*;have e1:bound (some (.int .i64 (P.length:Nat))) (P.length+1) (bN c)= .ok P.length:=gi (by omega);have hx:(eA c&&Yc (bN c) 0)=false:=by
  have:Yc (bN c) 0=false:=by
   cases hq:Yc (bN c) 0 with
   |false=>rfl
   |true=>have:=Yn hq;omega
  rw [this,Bool.and_false]
 have hf:eG c 2=true:=by
  unfold eG;rcases h7 with h|⟨h,he,-⟩
  ·rw [h];rfl
  ·rw [h,he];rfl
 refine⟨.slice (some ⟨b,0,none⟩) P.length (gO c 0),?_,Q,gO c 0,k,rfl,h2,h3,by rw [jJ,h4,Zd],by omega,?_,?_⟩
 ·unfold dj;simp only [J2,e1,R.aA,jE,VS,hx,cond_false,hf,cond_true,jh,qaE,YU,Zd]
 ·have:=congrArg (List.take P.length) h6;rwa [qb3,Y4 (by omega),List.take_left] at this
 ·rw [oE];rcases h7 with h|⟨h,he,hk⟩
  ·exact .inl h
  ·exact .inr ⟨h,by rw [rZ h];exact he,hk⟩
theorem P8 {p:Nat×Nat} (hb:b<A.next) (h:dD A 297 b (.var 2) (fu p)):zj A b [p] (.slice (some ⟨b,0,none⟩) 1 2):=
 ⟨[p],2,.var 2,rfl,hb,by simpa using h,rfl,X9 _,rfl,.inl rfl⟩
theorem z5:∀l:List cO,l.foldl (iU M k) none=none
 | []=>rfl
 |a::l=>by rw [Zh];exact z5 l
theorem Ek (l:List cO) (left:Nat):∀n j,j+n=l.length→∃q,j≤q∧q≤l.length∧(∀r (h:r<l.length),j≤r→r<q→(l[r]).to<left)∧(q=l.length∨∃a,l[q]?=some a∧left≤a.to)
 |0,j,h=>⟨j,X9 _,by omega,fun r _ h1 h2=>by omega,.inl (by omega)⟩
 |n+1,j,h=>by
  by_cases hj:left≤(l[j]'(by omega)).to
  ·exact⟨j,X9 _,by omega,fun r _ h1 h2=>by omega,.inr ⟨_,X6 (by omega),hj⟩⟩
  ·obtain⟨q,h1,h2,h3,h4⟩:=Ek l left n (j+1) (by omega);refine⟨q,by omega,h2,fun r hr ha hb=>?_,h4⟩;rcases YE j r with hlt|hge
   ·exact h3 r hr hlt hb
   ·have:r=j:=by omega
    subst this;omega
variable {q:Nat}
theorem Aj {left:Nat} {l:List cO} (hq:q≤l.length):∀n j,j+n=q→(∀r (h:r<l.length),j≤r→r<q→(l[r]).to<left)→(l.drop j).foldl (iU M k) (some left)=(l.drop q).foldl (iU M k) (some left)
 |0,j,h,_=>by rw [show j=q by omega]
 |n+1,j,h,hs=>by
  have ht:=hs j (by omega) (X9 _) (by omega);rw [Y3 (show j<l.length by omega),Zh];have e:iU M k (some left) (l[j]'(by omega))=some left:=by unfold iU;rw [ZZ,if_neg (by omega)]
  rw [e];exact Aj hq n (j+1) (by omega) fun r hr h1 h2=>hs r hr (by omega) h2
noncomputable def j5:Code:=ZI.body.getD .skip
noncomputable def dZ:Code:=sub j5 [1,0,1,1,1,0,0,0]
noncomputable def BL:Code:=sub dZ [1,0,1,1,0,0,0]
theorem Rp:ZI.body=some (.seq (sub j5 [0]) (.scope (.seq (sub j5 [1,0,0]) (.seq (sub j5 [1,0,1,0]) (.seq (sub j5 [1,0,1,1,0]) (.seq (.block 0 (.loop dZ)) (.seq (sub j5 [1,0,1,1,1,1,0]) (sub j5 [1,0,1,1,1,1,1])))))))):=by kernel_rfl
theorem zN:dZ=(.seq (sub dZ [0]) (.block 1 (.seq (sub dZ [1,0,0]) (.seq (sub dZ [1,0,1,0]) (.seq (.block 2 (.loop BL)) (.seq (sub dZ [1,0,1,1,1,0]) (.seq (sub dZ [1,0,1,1,1,1,0]) (sub dZ [1,0,1,1,1,1,1])))))))):=by kernel_rfl
variable {o:Nat}
theorem Ms:ax ai 297 (pw b o) 0= .ok (pw b o):=by kernel_rfl
theorem F6:ax ai 297 (pw b o) 1= .ok (pw b (o+1)):=by kernel_rfl
theorem Sm {n:Int}:cr ai 297 [(0,.int .i64 n)]= .ok (.agg ⟨[.int .i64 n,.int .i64 (0:Nat)]⟩):=by kernel_rfl
theorem Ru {m n:Int}:bc ai 298 1 [(0,.agg ⟨[.int .i64 m,.int .i64 n]⟩)]= .ok (aa 297 [.int .i64 m,.int .i64 n],.m_ 1 2):=by kernel_rfl
def Head (B:Mem) (p:Nat) (V:List (Nat×Nat)) (left:Nat) (t:T Value) (D:Mem):Prop:=∃b x,zj D b V x∧B.next≤b∧Kp B D∧Sl t [(1,pV p),(3,.int .i64 left),(4,x)]
theorem yl {α:Type} (l:List α) (a:α):(l++[a])[l.length]?=some a:=by rw [YA (X9 _),Zg];rfl
theorem NK {α:Type} (l:List α) (a b:α):(l++[a]).set l.length b=l++[b]:=by rw [List.set_append_right _ _ (X9 _),Zg];rfl
variable {j:Nat}
theorem zR {D:Mem} {k:Value} {left:Nat} {s:bj} {V:List (Nat×Nat)} (h:eX A M y) (hAB:Kp A B) (vB:VB B 105 A.next (.var 2) [y,k]) (hi:M[i]?=some s) (hl:s.arcs.length≤256) (hM:M.length<1000000) (hW:V.length<100000) (hL:left<1000000)
 (hjq:j≤q) (hq:q≤s.arcs.length) (hsk:∀r (h:r<s.arcs.length),j≤r→r<q→(s.arcs[r]).to<left) (hend:(q=s.arcs.length∧i=left)∨∃a,s.arcs[q]?=some a∧left≤a.to) (hH:Head B A.next (V++[(i,j)]) left t D):
 W ai dZ ⟨t,79,[],D,none⟩ fun e s'=>e= .nrm∧∃t' D',s'=⟨t',79,[],D',none⟩∧((q=s.arcs.length∧Head B A.next V (left+1) t' D')∨∃a,s.arcs[q]?=some a∧left≤a.to∧Head B A.next (V++[(i,q+1)]++[(a.to,0)]) left t' D'):=by
 obtain⟨b,x,hS,hb,hK,g1,g3,g4,-⟩:=hH;obtain⟨xs,p,r,i1,i2,hx,i4⟩:=(h.kp hAB).get hi;have i5:=(i4 D hK).2;have ly:aq ai D.get 102 (pw A.next 0)= .ok y:=(vB.kp hK).ld rfl fX rfl;have ls:=hS.len;rw [X',Y9] at ls;have hpos:0<V.length+1:=by omega
 have s1:aN .sub .i64 ((V.length+1:Nat):Int) ((1:Nat):Int)= .ok (.int .i64 (V.length:Nat)):=bq (by omega) (aR (by omega));have ix:=hS.idx (i:=V.length) (by rw [X',Y9];omega);obtain⟨e0,e1⟩:=hS.at (yl V (i,j));simp only [pV] at*;rw [zN];apply W.seq;apply W.run 20
 ·intro M;simp (disch:=first|decide+kernel|omega) only [dZ,j5,ZI,Aq,X2,g4,ls,bR,bw,hpos];rfl
 apply W.block;apply W.seq;apply W.run 20
 ·intro M;simp (disch:=first|decide+kernel|omega) only [dZ,j5,ZI,Aq,X2,g4,ls,s1,ix];rfl
 apply W.seq;apply W.run 20
 ·intro M;simp (config:={maxSteps:=4000000}) (disch:=first|decide+kernel|omega|simp only [Wq,X2]) only [dZ,j5,ZI,Aq,X5,reduceIte,X2,X3,g1,dc,ly,aG,a8,Ms,e0,i1,i2,i5,Fq,aC []];rfl
 apply W.seq;apply W.block;refine W.up q (fun j t D=>∃b x,zj D b (V++[(i,j)]) x∧B.next≤b∧Kp B D∧(∀r (h:r<s.arcs.length),j≤r→r<q→(s.arcs[r]).to<left)∧Sl t [(1,pw A.next 0),(3,.int .i64 left),(4,x),(5,pw b (V.length*2)),(6,xs)]) ?_ hjq ⟨b,x,hS,hb,hK,hsk,?_⟩
 ·rintro j t D hj ⟨b,x,hS,hb,hK,hsk,g1,g3,g4,g5,g6,-⟩;obtain⟨e0,e1⟩:=hS.at (yl V (i,j));have lx:=(hx.kp hK).len;by_cases hlt:j<s.arcs.length
  ·have hsj:s.arcs[j]?=some s.arcs[j]:=X6 hlt;obtain⟨pa,j1,pq,j2,j3⟩:=(hx.kp hK).to hsj;have a1:aN .add .i64 ((j:Nat):Int) ((1:Nat):Int)= .ok (.int .i64 (j+1:Nat)):=a9 (aR (by omega));obtain⟨E,sE,hSE,nE,fE⟩:=hS.XM (n:=j+1) (yl V (i,j));rw [NK] at hSE;have kE:Kp B E:=⟨by have:=hK.1;omega,fun z hz=>by rw [fE z (by omega),hK.2 z hz]⟩;by_cases hjq:j<q
   ·have hto:¬left≤(s.arcs[j]).to:=by have:=hsk j hlt (X9 _) hjq;omega
    apply W.run 20
    ·intro M;simp (disch:=first|decide+kernel|omega) only [BL,dZ,j5,ZI,Aq,X2,g3,g5,g6,aG,a8,F6,e1,lx,hlt,j1,j2,j3,a1,sE,bO,bm,hto];rfl
    refine⟨hjq,_,_,rfl,b,x,hSE,hb,kE,fun r hr h1 h2=>hsk r hr (by omega) h2,?_⟩;simp only [av,aw,T.af,T.ag,T.ak,X2,X3,if_true,if_false,and_true,true_and,g1,g3,g4,g5,g6]
   ·have e:j=q:=by omega
    subst e;rcases hend with⟨e,-⟩|⟨a,ha,hto⟩
    ·omega
    ·have ea:s.arcs[j]=a:=by rw [hsj] at ha;exact YJ ha
     rw [ea] at j3;have kF:=Kp.alloc E (aa 297 (fu (a.to,0)));obtain⟨x',G,b',happ,hSG,hb',nG,fG⟩:=(hSE.same kF.1 (kF.2 _ (by obtain⟨_,_,_,_,h,_⟩:=hSE;exact h))).push (b2:=E.next) (p:=(a.to,0)) (aD E _) (by rw [X',Y9];omega);rw [ae] at nG hb' fG;have happ':bk ai (E.alloc (aa 297 [.int .i64 (a.to:Nat),.int .i64 (0:Nat)])) 298 298 x (.slice (some ⟨E.next,0,none⟩) 1 2)= .ok (x',G):=happ;apply W.run 20
     ·intro M;simp (disch:=first|decide+kernel|omega) only [BL,dZ,j5,ZI,Aq,X2,g3,g4,g5,g6,aG,a8,F6,e1,lx,hlt,j1,j2,j3,a1,sE,bO,bm,hto,Sm,Ru,happ',show Yc 1 3=false from rfl];rfl
     have nk:=kE.1;refine⟨rfl,_,_,rfl,.inr ⟨a,ha,hto,b',x',hSG,by omega,⟨by omega,fun z hz=>by rw [fG z (by omega) (by omega),kF.2 z (by omega),kE.2 z hz]⟩,?_⟩⟩;simp only [av,aw,T.af,T.ag,T.ak,X2,X3,if_true,if_false,and_true,true_and,g1,g3,pV]
  ·have e:j=s.arcs.length:=by omega
   subst e;have hqe:q=s.arcs.length:=by omega
   subst hqe;rcases hend with⟨-,hil⟩|⟨a,ha,-⟩
   ·subst hil;have a1:aN .add .i64 ((i:Nat):Int) ((1:Nat):Int)= .ok (.int .i64 (i+1:Nat)):=a9 (aR (by omega));have ls:=hS.len;rw [X',Y9] at ls;obtain⟨x',hsl,hS'⟩:=hS.pop;apply W.run 20
    ·intro M;simp (disch:=first|decide+kernel|omega) only [BL,dZ,j5,ZI,Aq,X2,g3,g5,g6,aG,a8,F6,e1,lx,Zk];rfl
    apply W.seq;apply W.run 20
    ·intro M;simp (disch:=first|decide+kernel|omega) only [dZ,j5,ZI,Aq,X2,g3,g5,aG,a8,Ms,e0];rfl
    apply W.seq;apply W.run 20
    ·intro M;simp (disch:=first|decide+kernel|omega) only [dZ,j5,ZI,Aq,X2,g3,a1];rfl
    apply W.run 20
    ·intro M;simp (disch:=first|decide+kernel|omega) only [dZ,j5,ZI,Aq,X2,g4,ls,s1,hsl];rfl
    refine⟨rfl,_,_,rfl,.inl ⟨rfl,b,x',hS',hb,hK,?_⟩⟩;simp only [av,aw,T.af,T.ag,T.ak,X2,X3,if_true,if_false,and_true,true_and,g1,pV]
   ·rw [YR (X9 _)] at ha;cases ha
 ·simp only [av,aw,T.af,T.ag,T.ak,X2,X3,if_true,if_false,and_true,true_and,g1,g3,g4]
def W8 (B:Mem) (p:Nat) (K:Ex→St→Prop) (W1:List (Nat×Nat)) (l1:Nat) (W2:List (Nat×Nat)) (l2:Nat):Prop:=
 (∀t D,Head B p W2 l2 t D→W ai (.loop dZ) ⟨t,79,[],D,none⟩ K)→∀t D,Head B p W1 l1 t D→W ai (.loop dZ) ⟨t,79,[],D,none⟩ K
theorem Mg {k:Value} {K:Ex→St→Prop} (h:eX A M y) (hAB:Kp A B) (vB:VB B 105 A.next (.var 2) [y,k]) (g:dM M) (hM:M.length<1000000) {f:Nat}
 (ih:∀i left L V,fS M f i left=some L→V.length+i<100000→left≤M.length→W8 B A.next K (V++[(i,0)]) left V L∧L≤M.length) {s:bj} {V:List (Nat×Nat)} (hi:M[i]?=some s) (hW:V.length+i<100000):
 ∀n j left,j+n=s.arcs.length→left≤M.length→(s.arcs.drop j).foldl (iU M f) (some left)=some i→W8 B A.next K (V++[(i,j)]) left V (i+1):=by
 intro n
 induction n using qbf with
 |ind n ihn=>
  intro j left hj hle hf hk t D hH;have hfew:=mU (g i s hi);obtain⟨q,h1,h2,h3,h4⟩:=Ek s.arcs left n j hj;rw [Aj h2 (q-j) j (by omega) h3] at hf;rcases YE q s.arcs.length with hlt|hge
  ·have hsq:=X6 hlt;rcases h4 with h4|⟨a,ha,hto⟩
   ·omega
   ·have ea:s.arcs[q]=a:=by rw [hsq] at ha;exact YJ ha
    rw [Y3 hlt,Zh,ea] at hf;have e:iU M f (some left) a=fS M f a.to left:=by unfold iU;rw [ZZ,if_pos hto]
    rw [e] at hf;have hai:=(g i s hi).2.2.1 a (YF ha);cases hv:fS M f a.to left with
    |none=>rw [hv,z5] at hf;cases hf
    |some L1=>
     rw [hv] at hf;obtain⟨n1,n2⟩:=ih a.to left L1 (V++[(i,q+1)]) hv (by rw [X',Y9];omega) hle;have n3:=ihn (n-(q+1-j)) (by omega) (q+1) L1 (by omega) n2 hf;refine W.round ((zR h hAB vB hi hfew hM (by omega) (by omega) h1 h2 h3 (.inr ⟨a,ha,hto⟩) hH).mono ?_);rintro e s' ⟨rfl,t',D',rfl,⟨e,-⟩|⟨a',ha',-,hH'⟩⟩
     ·omega
     ·rw [ha] at ha';cases ha';exact n1 (n3 hk) t' D' hH'
  ·have e:q=s.arcs.length:=by omega
   subst e;rw [qb7] at hf;have hil:i=left:=(YJ hf).symm;refine W.round ((zR h hAB vB hi hfew hM (by omega) (by omega) h1 h2 h3 (.inl ⟨rfl,hil⟩) hH).mono ?_);rintro e s' ⟨rfl,t',D',rfl,⟨-,hH'⟩|⟨a',ha',-⟩⟩
   ·rw [←hil] at hH';exact hk t' D' hH'
   ·rw [YR (X9 _)] at ha';cases ha'
theorem Ak {k:Value} {K:Ex→St→Prop} (h:eX A M y) (hAB:Kp A B) (vB:VB B 105 A.next (.var 2) [y,k]) (g:dM M) (hM:M.length<1000000):
 ∀f i left L V,fS M f i left=some L→V.length+i<100000→left≤M.length→W8 B A.next K (V++[(i,0)]) left V L∧L≤M.length
 |0,i,left,L,V,hv,_,_=>by cases hv
 |f+1,i,left,L,V,hv,hW,hle=>by
  cases hi:M[i]? with
  |none=>rw [fS,hi] at hv;cases hv
  |some s=>
   rw [rA hi] at hv;cases hf:s.arcs.foldl (iU M f) (some left) with
   |none=>rw [hf] at hv;cases hv
   |some L'=>
    rw [hf,ZZ] at hv;split at hv
    ·rename_i e;subst e;cases hv;refine⟨Mg h hAB vB g hM (fun i left L W a b c=>Ak h hAB vB g hM f i left L W a b c) hi hW s.arcs.length 0 left (by omega) hle (by rw [Z5];exact hf),(X_.1 hi).1⟩
    ·cases hv
theorem Dm {k:Value} {f:Nat} (h:eX A M y) (g:dM M) (hM0:M≠ []) (hM:M.length<100000) (hv:fS M f (M.length-1) 0=some M.length):∃v A',bL ai 169 [.agg ⟨[y,k]⟩] A v A'∧v= .bool true∧Kp A A':=by
 refine cS (aB Tryz.func169) Rp (by rw [Tryz.ntmps169];simp) (by kernel_rfl) (by kernel_rfl) ?_;have hpos:=YM.2 hM0;have kB:=Kp.alloc A (aa 105 [y,k]);have vB:=aF A 105 [y,k];apply W.seq;apply W.run 20
 ·intro M;simp (disch:=first|decide+kernel|omega) only [j5,ZI,Aq,X2,au];rfl
 show W ai _ _ _;generalize A.alloc (aa 105 [y,k])=B at kB vB;have lB:aq ai B.get 102 (pw A.next 0)= .ok y:=vB.ld rfl fX rfl;have cz:=(h.kp kB).len;have s1:aN .sub .i64 ((M.length:Nat):Int) ((1:Nat):Int)= .ok (.int .i64 (M.length-1:Nat)):=bq (by omega) (aR (by omega));have kC:=Kp.alloc B (aa 297 (fu (M.length-1,0)));have vC:=aF B 297 (fu (M.length-1,0));have hC:B.alloc (aa 297 [.int .i64 (M.length-1:Nat),.int .i64 (0:Nat)])=B.alloc (aa 297 (fu (M.length-1,0))):=rfl;apply W.scope;apply W.seq;apply W.run 20
 ·intro M;simp (disch:=first|decide+kernel|omega) only [j5,ZI,Aq,X2];rfl
 apply W.seq;apply W.run 20
 ·intro M;simp (disch:=first|decide+kernel|omega) only [j5,ZI,Aq,X2,dc,lB,cz,s1,Sm,Ru,hC];rfl
 show W ai _ _ _;generalize B.alloc (aa 297 (fu (M.length-1,0)))=C at kC vC;apply W.seq;refine W.run 1 (fun m=>rfl) ?_;apply W.seq;apply W.block;refine(Ak h kB vB g (by omega) f (M.length-1) 0 M.length [] hv (by simp;omega) (Yg _)).1 ?_ _ _ ⟨B.next,.slice (some ⟨B.next,0,none⟩) 1 2,P8 vC.1 vC.2,X9 _,kC,?_⟩
 ·rintro t D ⟨b,x,hS,-,hK,g1,g3,g4,-⟩;have ls:=hS.len;have lD:aq ai D.get 102 (pw A.next 0)= .ok y:=(vB.kp hK).ld rfl fX rfl;have lenD:=(h.kp (kB.trans hK)).len;simp only [pV] at g1;apply W.round;rw [zN];apply W.seq;apply W.run 20
  ·intro M;simp (disch:=first|decide+kernel|omega) only [dZ,j5,ZI,Aq,X2,g4,ls,bR,bw,Ys];rfl
  apply W.seq;apply W.run 20
  ·intro M;simp (disch:=first|decide+kernel|omega) only [j5,ZI,Aq,X2,g1,g3,dc,lD,lenD];rfl
  apply W.run 20
  ·intro M;simp (disch:=first|decide+kernel|omega) only [j5,ZI,Aq,X2];rfl
  exact⟨by simp,rfl,_,(by simp only [ZI,Aq,X2]<;>rfl),rfl,kB.trans hK⟩
 ·simp only [av,aw,T.af,T.ag,T.ak,X2,X3,if_true,if_false,and_true,true_and,pV]
variable {m:Nat}
theorem VX:cr ai 208 [(1,.map (some m))]= .ok (.agg ⟨[.slice none 0 0,.map (some m)]⟩):=by kernel_rfl
theorem Pu:b7 ai 208= .ok (.agg ⟨[.slice none 0 0,.map none]⟩):=by kernel_rfl
theorem Jn:b7 ai 214= .ok (.agg ⟨[.slice none 0 0,.bool false,.int .u64 (0:Nat),.int .u8 (0:Nat)]⟩):=by kernel_rfl
theorem RI {x:Value} {s:bj}:cr ai 214 [(0,.agg ⟨cW x s⟩)]= .ok (.agg ⟨[x,.bool s.fin,.int .u64 s.out,.int .u8 (0:Nat)]⟩):=by kernel_rfl
theorem WL:aY ai 208= .ok 2:=by kernel_rfl
theorem W9:aY ai 214= .ok 4:=by kernel_rfl
noncomputable def jN:Code:=Z3.body.getD .skip
noncomputable def yB:Code:=sub jN [1,1,1,1,1,1,0,1,0,0]
theorem PS:Z3.body=some (.seq (sub jN [0]) (.seq (sub jN [1,0]) (.seq (sub jN [1,1,0]) (.seq (sub jN [1,1,1,0]) (.seq (sub jN [1,1,1,1,0]) (.seq (sub jN [1,1,1,1,1,0]) (.seq (.seq (sub jN [1,1,1,1,1,1,0,0]) (.block 0 (.loop yB))) (.seq (sub jN [1,1,1,1,1,1,1,0]) (sub jN [1,1,1,1,1,1,1,1]))))))))):=by kernel_rfl
theorem PU {s:bj} (hn:M.Nodup) (hf:∀s∈M,Fit s) (h:M[i]?=some s):jZ s∉(M.take i).map jZ:=by
 intro hm;obtain⟨u,hu,he⟩:=YN.1 hm;obtain⟨j,hj,rfl⟩:=qay hu;rw [Yo] at hj;rw [List.getElem_take] at he;obtain⟨hi,rfl⟩:=X_.1 h;have:=key_inj (hf _ (YQ (by omega))) (hf _ (YQ hi)) he;exact Zv.1 hn j i (by omega) hi (by omega) this
theorem KK {D:Mem} {s:bj} (h:eX A M y) (g:dM M) (hn:M.Nodup) (hf:∀s∈M,Fit s) (hM:M.length<100000) (hi:M[i]?=some s) (hAC:Kp A C) (hp:A.next≤p∧A.next≤mk) (hR:QB C p mk ((M.take i).map jZ) D)
 (hs:Sl t [(4,pV p),(43,y),(44,.int .i64 M.length),(45,.int .i64 i)]):
 W ai yB ⟨t,72,[],D,none⟩ fun e s'=>e= .nrm∧∃t' D',s'=⟨t',72,[],D',none⟩∧QB C p mk ((M.take (i+1)).map jZ) D'∧Sl t' [(4,pV p),(43,y),(44,.int .i64 M.length),(45,.int .i64 (i+1:Nat))]:=by
 obtain⟨g4,g43,g44,g45,-⟩:=hs;have hil:=(X_.1 hi).1;have hkn:=PU hn hf hi;have htk:(M.take (i+1)).map jZ=(M.take i).map jZ++[jZ s]:=by
  obtain⟨hi',rfl⟩:=X_.1 hi;rw [Yd hi',YV];rfl
 obtain⟨-,-,-,hne,h0⟩:=g i s hi;have hfew:=mU (g i s hi);have hkl:((M.take i).map jZ).length=i:=by rw [Yb,Yo];omega
 have kAD:Kp A D:=by
  obtain⟨_,_,_,-,-,-,-,-,e6,e7⟩:=hR;exact⟨by have:=hAC.1;omega,fun z hz=>by rw [e7 z (by have:=hAC.1;omega) (by omega) (by omega),hAC.2 z hz]⟩
 obtain⟨x,q,j1,j2,hx,-⟩:=(h.kp kAD).at hi;have sE:=Dk hx;have kE:=Kp.alloc D (aa 164 (cW x s));have vE:=aF D 164 (cW x s);have hxE:=hx.kp kE;have nE:(D.alloc (aa 164 (cW x s))).next=D.next+1:=ae _ _
 generalize hEe:D.alloc (aa 164 (cW x s))=E at sE kE vE hxE nE;have sF:aW ai (E.alloc (aa 214 [.slice none 0 0,.bool false,.int .u64 (0:Nat),.int .u8 (0:Nat)])) 214 (.pointer (some ⟨E.next,0,none⟩)) (.agg ⟨[x,.bool s.fin,.int .u64 s.out,.int .u8 (0:Nat)]⟩)= .ok (E.alloc (aa 214 [x,.bool s.fin,.int .u64 s.out,.int .u8 (0:Nat)])):=bn W9 rfl rfl (by simp) (fun v hv=>by
  simp only [Yp,YH,or_false] at hv;rcases hv with rfl|rfl|rfl|rfl
  ·obtain⟨b,hb⟩:=hx;exact(az.dm hb).2
  all_goals rfl)
 have kF:=Kp.alloc E (aa 214 [x,.bool s.fin,.int .u64 s.out,.int .u8 (0:Nat)]);have vF:=aF E 214 [x,.bool s.fin,.int .u64 s.out,.int .u8 (0:Nat)];generalize hFe:E.alloc (aa 214 [x,.bool s.fin,.int .u64 s.out,.int .u8 (0:Nat)])=F at sF kF vF;obtain⟨v1,G,⟨g1,h1⟩,rfl,kG⟩:=G9 (hxE.kp kF) vF hfew h0;obtain⟨v2,H,⟨g2,h2⟩,rfl,hRH⟩:=Hi (hR.kp (kE.trans (kF.trans kG))) (hxE.kp (kF.trans kG)) (hf s (YF hi)) hfew hkn (by rw [hkl];omega);rw [hkl] at h2;obtain⟨d,hd1,hd2⟩:=bA (t:=164) (p:=true) (by kernel_rfl);have l0:aq ai E.get 164 (.pointer (some ⟨D.next,0,none⟩))= .ok (.agg ⟨cW x s⟩):=aQ hd1 hd2 (l:=cW x s) mQ vE.2;have l1:aq ai F.get 4 (.pointer (some ⟨D.next,0+1,none⟩))= .ok (.bool s.fin):=(vE.kp kF).ld rfl u4 rfl;have l2:aq ai F.get 162 (.pointer (some ⟨D.next,0,none⟩))= .ok x:=(vE.kp kF).ld rfl j8 rfl;have l3:aq ai G.get 164 (.pointer (some ⟨D.next,0,none⟩))= .ok (.agg ⟨cW x s⟩):=aQ hd1 hd2 (l:=cW x s) mQ (vE.kp (kF.trans kG)).2;have lx:=(hxE.kp kF).len;rw [htk];simp only [pV] at g4;cases hfin:s.fin with
 |true=>
  rw [hfin] at l1;apply W.a6 (g1+g2) 20
  ·intro M hM;simp (config:={maxSteps:=4000000}) (disch:=first|decide+kernel|omega|simp only [Wq,X2]) only [yB,jN,Z3,Aq,X5,reduceIte,X2,X3,g4,g43,g44,g45,hil,j1,j2,jr,au,sE,l0,RI,Jn,sF,cZ,cR,l1,l2,lx,h1,l3,h2];rfl
  refine⟨rfl,_,_,rfl,hRH,?_⟩;simp only [av,aw,T.af,T.ag,T.ak,X2,X3,if_true,if_false,and_true,true_and,g4,g43,g44,pV]
 |false=>
  rw [hfin] at l1;have hlen:¬s.arcs.length=0:=by
   rcases hne with h|h
   ·rw [hfin] at h;cases h
   ·exact fun e=>h (Yh.1 e)
  apply W.a6 (g1+g2) 20
  ·intro M hM;simp (config:={maxSteps:=4000000}) (disch:=first|decide+kernel|omega|simp only [Wq,X2]) only [yB,jN,Z3,Aq,X5,reduceIte,X2,X3,g4,g43,g44,g45,hil,j1,j2,jr,au,sE,l0,RI,Jn,sF,cZ,cR,l1,l2,lx,hlen,h1,l3,h2];rfl
  refine⟨rfl,_,_,rfl,hRH,?_⟩;simp only [av,aw,T.af,T.ag,T.ak,X2,X3,if_true,if_false,and_true,true_and,g4,g43,g44,pV]
theorem Lh {f:Nat} (h:eX A M y) (hM0:M≠ []) (g:Sto.Good M) (hf:∀s∈M,Fit s) (hM:M.length<100000) (hv:fS M f (M.length-1) 0=some M.length):∃v A',bL ai 122 [.agg ⟨[y,.int .u64 k]⟩] A v A'∧v= .bool true∧Kp A A':=by
 refine cS (aB Tryz.func122) PS (by rw [Tryz.ntmps122];simp) (by kernel_rfl) (by kernel_rfl) ?_;have hpos:=YM.2 hM0;have kB:=Kp.alloc A (aa 105 [y,.int .u64 k]);have vB:=aF A 105 [y,.int .u64 k];apply W.seq;apply W.run 20
 ·intro M;simp (disch:=first|decide+kernel|omega) only [jN,Z3,Aq,X2,au];rfl
 show W ai _ _ _;have nB:(A.alloc (aa 105 [y,.int .u64 k])).next=A.next+1:=ae _ _
 generalize A.alloc (aa 105 [y,.int .u64 k])=B at kB vB nB;obtain⟨d,hd1,hd2⟩:=bA (t:=105) (p:=true) (by kernel_rfl);have lw:∀D,Kp B D→aq ai D.get 105 (.pointer (some ⟨A.next,0,none⟩))= .ok (.agg ⟨[y,.int .u64 k]⟩):=fun D hD=>aQ hd1 hd2 (l:=[y,.int .u64 k]) eD (vB.kp hD).2
 have ly:∀D,Kp B D→aq ai D.get 102 (.pointer (some ⟨A.next,0,none⟩))= .ok y:=fun D hD=>(vB.kp hD).ld rfl fX rfl
 have l1:=lw B (Kp.refl _);obtain⟨v1,C,⟨g1,h1⟩,rfl,kC⟩:=Ho (k:=k) (h.kp kB) hM0 g.1 (by omega);apply W.seq;apply W.a6 (g1) 20
 ·intro M hM;simp (disch:=first|decide+kernel|omega) only [jN,Z3,Aq,X2,l1,h1];rfl
 show W ai _ _ _;have hr:M[M.length-1]?=some (M[M.length-1]'(by omega)):=X6 (by omega)
 have hne:=(g.1 _ _ hr).2.2.2.1;obtain⟨x,q,j1,j2,hx,-⟩:=(h.kp (kB.trans kC)).at hr;generalize M[M.length-1]'(by omega)=s at*
 have sE:=Dk hx;have kE:=Kp.alloc C (aa 164 (cW x s));have vE:=aF C 164 (cW x s);generalize hEe:C.alloc (aa 164 (cW x s))=E at sE kE vE;have l2:=ly C kC;have lenC:=(h.kp (kB.trans kC)).len;have s1:aN .sub .i64 ((M.length:Nat):Int) ((1:Nat):Int)= .ok (.int .i64 (M.length-1:Nat)):=bq (by omega) (aR (by omega));apply W.seq;apply W.run 20
 ·intro M;simp (disch:=first|decide+kernel|omega) only [jN,Z3,Aq,X2,dc,l2,lenC,s1,j1,j2,jr,au,sE];rfl
 show W ai _ _ _;have e1:aq ai E.get 4 (.pointer (some ⟨C.next,0+1,none⟩))= .ok (.bool s.fin):=vE.ld rfl u4 rfl;have e2:aq ai E.get 162 (.pointer (some ⟨C.next,0,none⟩))= .ok x:=vE.ld rfl j8 rfl;have lx:=(hx.kp kE).len;apply W.seq;refine W.to (n:=72) (fun t D=>D=E∧Sl t [(1,.pointer (some ⟨A.next,0,none⟩))]) ?_ ?_
 ·cases hfin:s.fin with
  |true=>
   rw [hfin] at e1;apply W.run 20
   ·intro M;simp (config:={maxSteps:=4000000}) (disch:=first|decide+kernel|omega|simp only [Wq,X2]) only [jN,Z3,Aq,X5,reduceIte,X2,X3,cZ,cR,e1];rfl
   refine⟨rfl,_,_,rfl,rfl,?_⟩;simp only [av,aw,T.af,T.ag,T.ak,X2,X3,if_true,if_false,and_true,true_and]
  |false=>
   rw [hfin] at e1;have hlen:¬s.arcs.length=0:=by
    rcases hne with h|h
    ·rw [hfin] at h;cases h
    ·exact fun e=>h (Yh.1 e)
   apply W.run 20
   ·intro M;simp (config:={maxSteps:=4000000}) (disch:=first|decide+kernel|omega|simp only [Wq,X2]) only [jN,Z3,Aq,X5,reduceIte,X2,X3,cZ,cR,e1,e2,lx,hlen];rfl
   refine⟨rfl,_,_,rfl,rfl,?_⟩;simp only [av,aw,T.af,T.ag,T.ak,X2,X3,if_true,if_false,and_true,true_and]
 ·rintro t D ⟨rfl,g1',-⟩;show W ai _ _ _;have kBD:=kC.trans kE;have l3:=lw D kBD;obtain⟨v2,F,⟨g2,h2⟩,rfl,kF⟩:=Dm (k:=.int .u64 k) (h.kp (kB.trans kBD)) g.1 hM0 hM hv;apply W.seq;apply W.a6 (g2) 20
  ·intro M hM;simp (disch:=first|decide+kernel|omega) only [jN,Z3,Aq,X2,g1',l3,h2];rfl
  show W ai _ _ _;have kAF:=kB.trans (kBD.trans kF);have n1:(F.alloc (.map [] 0)).next=F.next+1:=ae _ _
  have k1:=Kp.alloc F (.map [] 0);have k2:=Kp.alloc (F.alloc (.map [] 0)) (aa 208 [.slice none 0 0,.map (some F.next)]);have n2:((F.alloc (.map [] 0)).alloc (aa 208 [.slice none 0 0,.map (some F.next)])).next=F.next+2:=by rw [ae,n1]
  have v2:=aF (F.alloc (.map [] 0)) 208 [.slice none 0 0,.map (some F.next)];have m2:((F.alloc (.map [] 0)).alloc (aa 208 [.slice none 0 0,.map (some F.next)])).get F.next=some (.map [] 0):=by rw [aH (by omega)];exact aD _ _
  have sG:aW ai ((F.alloc (.map [] 0)).alloc (aa 208 [.slice none 0 0,.map none])) 208 (.pointer (some ⟨(F.alloc (.map [] 0)).next,0,none⟩)) (.agg ⟨[.slice none 0 0,.map (some F.next)]⟩)= .ok _:=bn (l':=[.slice none 0 0,.map (some F.next)]) WL rfl rfl (by simp) (by simp [aJ]);rw [n1] at v2 sG;apply W.seq;apply W.run 20
  ·intro M;simp (disch:=first|decide+kernel|omega) only [jN,Z3,Aq,X2,gG,fq,A6,VX,Pu,au,n1,sG];rfl
  show W ai _ _ _;generalize (F.alloc (.map [] 0)).alloc (aa 208 [.slice none 0 0,.map (some F.next)])=G at k2 n2 v2 m2 sG;have kAG:=kAF.trans (k1.trans k2);have nF:=kAF.1;have l4:=ly G (kBD.trans (kF.trans (k1.trans k2)));have lenG:=(h.kp kAG).len;have hR:QB G (F.next+1) F.next ((M.take 0).map jZ) G:=⟨G.next,.slice none 0 0,[],v2,m2,.inl ⟨rfl,rfl⟩,rfl,⟨X9 _,fun _=>rfl,by omega,by omega,by omega⟩,X9 _,fun _ _ _ _=>rfl⟩
  apply W.seq;apply W.seq;apply W.run 20
  ·intro M;simp (disch:=first|decide+kernel|omega) only [jN,Z3,Aq,X2,g1',dc,l4,lenG];rfl
  apply W.block;refine W.up M.length (fun i t D=>QB G (F.next+1) F.next ((M.take i).map jZ) D∧Sl t [(4,pV (F.next+1)),(43,y),(44,.int .i64 M.length),(45,.int .i64 i)]) ?_ (Yg _) ⟨hR,?_⟩
  ·rintro i t D hi ⟨hR,hs⟩;by_cases hlt:i<M.length
   ·refine(KK h g.1 g.2.1 hf hM (X6 hlt) kAG ⟨by omega,by omega⟩ hR hs).mono ?_;rintro e s' ⟨rfl,t',D',rfl,hR',hs'⟩;exact⟨hlt,t',D',rfl,hR',hs'⟩
   ·have e:i=M.length:=by omega
    subst e;obtain⟨_,_,_,-,-,-,-,-,e6,e7⟩:=hR;obtain⟨g4,g43,g44,g45,-⟩:=hs;apply W.run 20
    ·intro M;simp (disch:=first|decide+kernel|omega) only [yB,jN,Z3,Aq,X2,g44,g45];rfl
    apply W.seq;apply W.run 20
    ·intro M;simp (disch:=first|decide+kernel|omega) only [jN,Z3,Aq,X2];rfl
    apply W.run 20
    ·intro M;simp (disch:=first|decide+kernel|omega) only [jN,Z3,Aq,X2];rfl
    exact⟨by simp,rfl,_,(by simp only [Z3,Aq,X2]<;>rfl),rfl,by show A.next≤D.next;omega,fun z hz=>by show D.get z=A.get z;rw [e7 z (by omega) (by omega) (by omega),kAG.2 z hz]⟩
  ·simp only [av,aw,T.af,T.ag,T.ak,X2,X3,if_true,if_false,and_true,true_and,pV]
structure iK where
 ver:Nat
 next:Nat
 segs:List (Nat×Nat×Nat)
def dw (s:Nat×Nat×Nat):List Value:=[.int .i64 s.1,.int .i64 s.2.1,.int .i64 s.2.2]
def fg (A:Mem) (l:List (Nat×Nat×Nat)) (x:Value):Prop:=∃b,az A 58 3 b (l.map dw) x
def bS (x:Value) (m:iK):List Value:=[.int .i64 m.ver,.int .i64 (1:Nat),.int .i64 m.next,x]
def IZ (next:Nat) (s:Nat×Nat×Nat):Prop:=(1≤s.1∧s.1<next)∧(1≤s.2.1∧s.2.1≤100000)∧1≤s.2.2∧s.2.2≤1000000000
def oQ (m:iK):Prop:=m.ver≤900000000∧(1≤m.next∧m.next≤900000000)∧m.segs.length≤1000∧(∀s∈m.segs,IZ m.next s)∧(m.segs.map (·.1)).Nodup
def bT (l:List Nat):List UInt8:=l.flatMap bH
def dk (l:List (Nat×Nat×Nat)):List Nat:=l.flatMap fun s=>[s.1,s.2.1,s.2.2]
def gx (m:iK):List UInt8:=[67,77,1]++bT ([m.ver,1,m.next,m.segs.length]++dk m.segs)
theorem fg.kp {l:List (Nat×Nat×Nat)} {x:Value} (h:fg A l x) (k:Kp A A'):fg A' l x:=by
 obtain⟨b,h⟩:=h;exact⟨b,h.same k.1 (k.2 b)⟩
theorem Fo:ai.bp 34=some (.slice 58):=by kernel_rfl
theorem UQ:aY ai 58= .ok 3:=by kernel_rfl
theorem jH:aY ai 36= .ok 4:=by kernel_rfl
theorem tR:b7 ai 36= .ok (.agg ⟨[.int .i64 (0:Nat),.int .i64 (0:Nat),.int .i64 (0:Nat),.slice none 0 0]⟩):=by kernel_rfl
theorem Nk:b7 ai 58= .ok (.agg ⟨[.int .i64 (0:Nat),.int .i64 (0:Nat),.int .i64 (0:Nat)]⟩):=by kernel_rfl
theorem IC:ax ai 36 (pw b o) 0= .ok (pw b o):=by kernel_rfl
theorem L0:ax ai 36 (pw b o) 1= .ok (pw b (o+1)):=by kernel_rfl
theorem Df:ax ai 36 (pw b o) 2= .ok (pw b (o+2)):=by kernel_rfl
theorem mi:ax ai 36 (pw b o) 3= .ok (pw b (o+3)):=by kernel_rfl
theorem sr:ax ai 58 (pw b o) 0= .ok (pw b o):=by kernel_rfl
theorem AM:ax ai 58 (pw b o) 1= .ok (pw b (o+1)):=by kernel_rfl
theorem vn:ax ai 58 (pw b o) 2= .ok (pw b (o+2)):=by kernel_rfl
theorem fg.len {l:List (Nat×Nat×Nat)} {x:Value} (h:fg A l x):aO ai .len [34] [x]= .ok (.int .i64 (l.length:Nat)):=by
 obtain⟨b,h⟩:=h;have:=az.len (tb:=ai) h Fo;rwa [Yb] at this
theorem fg.self {l:List (Nat×Nat×Nat)} {x:Value} (h:fg A l x):x.cells.toList=[x]∧aJ x=true:=by
 obtain⟨b,h⟩:=h;exact az.dm h
theorem fg.at {l:List (Nat×Nat×Nat)} {x:Value} {s:Nat×Nat×Nat} (h:fg A l x) (hi:l[i]?=some s):
 ∃b o,aZ ai 34 x (.int .i64 i)= .ok (pw b o)∧aq ai A.get 58 (pw b o)= .ok (.agg ⟨dw s⟩)∧aq ai A.get 3 (pw b o)= .ok (.int .i64 s.1)∧
  aq ai A.get 3 (pw b (o+1))= .ok (.int .i64 s.2.1)∧aq ai A.get 3 (pw b (o+2))= .ok (.int .i64 s.2.2):=by
 obtain⟨b,h⟩:=h;have hl:i<(l.map dw).length:=by rw [Yb];exact(X_.1 hi).1
 have hm:(l.map dw)[i]?=some (dw s):=by rw [Yr,hi];rfl
 obtain⟨d,hd1,hd2⟩:=bA (t:=58) (p:=true) (by kernel_rfl);refine⟨b,_,az.idx h Fo UQ hl,az.aQ h hd1 hd2 UQ hm,?_,az.load (tb:=ai) (j:=1) h u3 rfl hm rfl (by omega),az.load (tb:=ai) (j:=2) h u3 rfl hm rfl (by omega)⟩;have:=az.load (tb:=ai) (j:=0) h u3 rfl hm rfl (by omega);rwa [YU] at this
variable {c:Nat}
theorem Ux {ih:Code→St→R (Ex×St)} {a:Nat} (h:b≤a∧a≤c):bg ai ih (.fn 104 [.int .i64 a,.int .i64 b,.int .i64 c]) A= .ok (.val (.bool true) A):=by
 rw [Qv,decide_eq_true (by omega)]
noncomputable def BT:Code:=qae.body.getD .skip
noncomputable def iD:Code:=sub BT [1,1,0,1,0,0]
noncomputable def Ny:Code:=sub iD [1,0,0,1,1,1,0,0]
theorem SQ:qae.body=some (.seq (sub BT [0]) (.seq (sub BT [1,0]) (.seq (.seq (sub BT [1,1,0,0]) (.block 0 (.loop iD))) (.seq (sub BT [1,1,1,0]) (sub BT [1,1,1,1]))))):=by kernel_rfl
theorem C8:iD=(.seq (sub iD [0]) (.seq (.block 1 (.seq (sub iD [1,0,0,0]) (.seq (sub iD [1,0,0,1,0]) (.seq (sub iD [1,0,0,1,1,0]) (.block 2 (.loop Ny)))))) (sub iD [1,1]))):=by kernel_rfl
theorem FX {m:iK} {x:Value} (h:fg A m.segs x) (hm:oQ m):∃v A',bL ai 60 [.agg ⟨bS x m⟩] A v A'∧v= .bool true∧Kp A A':=by
 obtain⟨m1,m2,m3,m4,m5⟩:=hm;refine cS (aB Tryz.func60) SQ (by rw [Tryz.ntmps60];simp) (by kernel_rfl) (by kernel_rfl) ?_;have kB:=Kp.alloc A (aa 36 (bS x m));have vB:=aF A 36 (bS x m);apply W.seq;apply W.run 20
 ·intro M;simp (disch:=first|decide+kernel|omega) only [BT,qae,Aq,X2,au];rfl
 show W ai _ _ _;have hB:=h.kp kB;generalize A.alloc (aa 36 (bS x m))=B at kB vB hB;have l0:aq ai B.get 3 (pw A.next 0)= .ok (.int .i64 m.ver):=vB.ld rfl u3 rfl;have l1:aq ai B.get 3 (pw A.next (0+1))= .ok (.int .i64 (1:Nat)):=vB.ld rfl u3 rfl;have l2:∀D,Kp B D→aq ai D.get 3 (pw A.next (0+2))= .ok (.int .i64 m.next):=fun D hD=>(vB.kp hD).ld rfl u3 rfl
 have l3:∀D,Kp B D→aq ai D.get 34 (pw A.next (0+3))= .ok x:=fun D hD=>(vB.kp hD).ld rfl Fo rfl
 have l2B:=l2 B (Kp.refl _);have l3B:=l3 B (Kp.refl _);have cz:=hB.len;have w0:=fun ih=>Ux (ih:=ih) (A:=B) (a:=m.ver) (b:=0) (c:=900000000) ⟨Yg _,m1⟩
 have w1:=fun ih=>Ux (ih:=ih) (A:=B) (a:=1) (b:=1) (c:=900000000) (by omega)
 have w2:=fun ih=>Ux (ih:=ih) (A:=B) (a:=m.next) (b:=1) (c:=900000000) m2
 have hn1:¬1000<m.segs.length:=by omega
 apply W.seq;apply W.run 20
 ·intro M;simp (config:={maxSteps:=4000000}) (disch:=first|decide+kernel|omega|simp only [Wq,X2]) only [BT,qae,Aq,X5,reduceIte,X2,X3,IC,L0,Df,mi,l0,l1,l2B,l3B,cz,w0,w1,w2,hn1,bR,bw];rfl
 apply W.seq;apply W.seq;apply W.run 20
 ·intro M;simp (disch:=first|decide+kernel|omega) only [BT,qae,Aq,X2];rfl
 apply W.block;refine W.up m.segs.length (fun i t D=>Kp B D∧Sl t [(1,pw A.next 0),(3,.int .i64 i)]) ?_ (Yg _) ⟨Kp.refl _,?_⟩
 ·rintro i t D hi ⟨kD,g1,g3,-⟩;have lD:=l3 D kD;have lD2:=l2 D kD;have hD:=hB.kp kD;have lenD:=hD.len;by_cases hlt:i<m.segs.length
  ·have hMi:m.segs[i]?=some m.segs[i]:=X6 hlt;obtain⟨⟨s1,s2⟩,s3,s4⟩:=m4 _ (YQ hlt);obtain⟨b,o,j1,j2,-⟩:=hD.at hMi;have hdis:∀j,(hj:j<i)→(m.segs[j]'(by omega)).1≠(m.segs[i]).1:=fun j hj e=>by
    exact Zv.1 m5 j i (by rw [Yb];omega) (by rw [Yb];exact hlt) hj (by simpa using e)
   generalize m.segs[i]=s at*;have sE:aW ai (D.alloc (aa 58 [.int .i64 (0:Nat),.int .i64 (0:Nat),.int .i64 (0:Nat)])) 58 (pw D.next 0) (.agg ⟨dw s⟩)= .ok (D.alloc (aa 58 (dw s))):=bn UQ rfl rfl (by simp) (by simp [dw,aJ]);have kE:=Kp.alloc D (aa 58 (dw s));have vE:=aF D 58 (dw s);generalize D.alloc (aa 58 (dw s))=E at sE kE vE;have a0:aq ai E.get 3 (pw D.next 0)= .ok (.int .i64 s.1):=vE.ld rfl u3 rfl;have a1:aq ai E.get 3 (pw D.next (0+1))= .ok (.int .i64 s.2.1):=vE.ld rfl u3 rfl;have a2:aq ai E.get 3 (pw D.next (0+2))= .ok (.int .i64 s.2.2):=vE.ld rfl u3 rfl;have l2E:=l2 E (kD.trans kE);have l3E:=l3 E (kD.trans kE);have hE:=hD.kp kE;have w3:=fun ih=>Ux (ih:=ih) (A:=E) (a:=s.1) (b:=1) (c:=m.next-1) (by omega)
   have w4:=fun ih=>Ux (ih:=ih) (A:=E) (a:=s.2.1) (b:=1) (c:=100000) s3
   have w5:=fun ih=>Ux (ih:=ih) (A:=E) (a:=s.2.2) (b:=1) (c:=1000000000) s4
   have su:aN .sub .i64 ((m.next:Nat):Int) ((1:Nat):Int)= .ok (.int .i64 (m.next-1:Nat)):=bq (by omega) (aR (by omega));rw [C8];apply W.seq;apply W.run 20
   ·intro M;simp (disch:=first|decide+kernel|omega) only [iD,BT,qae,Aq,X2,g1,g3,mi,lD,lenD,hlt];rfl
   apply W.seq;apply W.block;apply W.seq;apply W.run 20
   ·intro M;simp (disch:=first|decide+kernel|omega) only [iD,BT,qae,Aq,X2,g1,g3,mi,lD,j1,j2,Nk,au,sE];rfl
   apply W.seq;apply W.run 20
   ·intro M;simp (config:={maxSteps:=4000000}) (disch:=first|decide+kernel|omega|simp only [Wq,X2]) only [iD,BT,qae,Aq,X5,reduceIte,X2,X3,g1,Df,sr,AM,vn,a0,a1,a2,l2E,su,w3,w4,w5];rfl
   apply W.seq;apply W.run 20
   ·intro M;simp (disch:=first|decide+kernel|omega) only [iD,BT,qae,Aq,X2];rfl
   apply W.block;refine W.up i (fun j t D'=>D'=E∧Sl t [(1,pw A.next 0),(3,.int .i64 i),(4,pw D.next 0),(5,.int .i64 j)]) ?_ (Yg _) ⟨rfl,?_⟩
   ·rintro j t D' hj ⟨rfl,g1,g3,g4,g5,-⟩;by_cases hlt2:j<i
    ·have hsj:m.segs[j]?=some (m.segs[j]'(by omega)):=X6 (by omega)
     obtain⟨b',o',q1,-,q2,-⟩:=hE.at hsj;have hne:=hdis j hlt2;apply W.run 20
     ·intro M;simp (config:={maxSteps:=4000000}) (disch:=first|decide+kernel|omega|simp only [Wq,X2]) only [Ny,iD,BT,qae,Aq,X5,reduceIte,X2,X3,g1,g3,g4,g5,hlt2,mi,sr,l3E,q1,q2,a0,hne,Fq,aC []];rfl
     refine⟨hlt2,_,_,rfl,rfl,?_⟩;simp only [av,aw,T.af,T.ag,T.ak,X2,X3,if_true,if_false,and_true,true_and,g1,g3,g4]
    ·have e:j=i:=by omega
     subst e;apply W.run 20
     ·intro M;simp (disch:=first|decide+kernel|omega) only [Ny,iD,BT,qae,Aq,X2,g3,g5];rfl
     show W ai (sub iD [1,1]) _ _;apply W.run 20
     ·intro M;simp (disch:=first|decide+kernel|omega) only [iD,BT,qae,Aq,X2,g3];rfl
     refine⟨hlt,_,_,rfl,kD.trans kE,?_⟩;simp only [av,aw,T.af,T.ag,T.ak,X2,X3,if_true,if_false,and_true,true_and,g1]
   ·simp only [av,aw,T.af,T.ag,T.ak,X2,X3,if_true,if_false,and_true,true_and,g1,g3]
  ·have e:i=m.segs.length:=by omega
   subst e;rw [C8];apply W.seq;apply W.run 20
   ·intro M;simp (disch:=first|decide+kernel|omega) only [iD,BT,qae,Aq,X2,g1,g3,mi,lD,lenD];rfl
   apply W.seq;apply W.run 20
   ·intro M;simp (disch:=first|decide+kernel|omega) only [BT,qae,Aq,X2];rfl
   apply W.run 20
   ·intro M;simp (disch:=first|decide+kernel|omega) only [BT,qae,Aq,X2];rfl
   exact⟨by simp,rfl,_,(by simp only [qae,Aq,X2]<;>rfl),rfl,kB.trans kD⟩
 ·simp only [av,aw,T.af,T.ag,T.ak,X2,X3,if_true,if_false,and_true,true_and]
def jo (n:Nat):List Value:=[.int .u64 n]
def oN (A:Mem) (l:List Nat) (x:Value):Prop:=∃b,az A 103 1 b (l.map jo) x
theorem pL:ai.bp 117=some (.slice 103):=by kernel_rfl
theorem N2:aY ai 103= .ok 1:=by kernel_rfl
theorem Se:cq ai 103= .ok (1,[.int .u64 0]):=by kernel_rfl
theorem Sf:∃i,ai.ty.get 103=some i∧0<i.bytes∧i.bytes≤65536:=by
 have h:(ai.ty.get 103).map (fun i=>Ye 0 i.bytes&&X5 i.bytes 65536)=some true:=by kernel_rfl
 cases hq:ai.ty.get 103 with
 |none=>rw [hq] at h;cases h
 |some i=>
  rw [hq] at h;simp only [YI,YB,Yq,Yl] at h;exact⟨i,rfl,h.1,Yx h.2⟩
theorem oN.kp {l:List Nat} {x:Value} (h:oN A l x) (k:Kp A A'):oN A' l x:=by
 obtain⟨b,h⟩:=h;exact⟨b,h.same k.1 (k.2 b)⟩
theorem oN.len {l:List Nat} {x:Value} (h:oN A l x):aO ai .len [117] [x]= .ok (.int .i64 (l.length:Nat)):=by
 obtain⟨b,h⟩:=h;have:=az.len (tb:=ai) h pL;rwa [Yb] at this
theorem oN.at {l:List Nat} {x:Value} (h:oN A l x) (hi:l[i]?=some n):∃p,aZ ai 117 x (.int .i64 i)= .ok p∧aq ai A.get 103 p= .ok (.int .u64 n):=by
 obtain⟨b,h⟩:=h;have hl:i<(l.map jo).length:=by rw [Yb];exact(X_.1 hi).1
 have hm:(l.map jo)[i]?=some (jo n):=by rw [Yr,hi];rfl
 refine⟨_,az.idx h pL N2 hl,?_⟩;have:=az.load (tb:=ai) (j:=0) h ff rfl hm rfl (by omega);rwa [YU] at this
noncomputable def La:Code:=qbM.body.getD .skip
noncomputable def Ox:Code:=sub La [1,1,0,1,0,0]
theorem S5:qbM.body=some (.seq (sub La [0]) (.seq (sub La [1,0]) (.seq (.seq (sub La [1,1,0,0]) (.block 0 (.loop Ox))) (.seq (sub La [1,1,1,0]) (sub La [1,1,1,1]))))):=by kernel_rfl
theorem xW {l:List Nat} (h:l[i]?=some n):bT (l.take (i+1))=bT (l.take i)++bH n:=by
 obtain⟨hi,rfl⟩:=X_.1 h;unfold bT;rw [Yd hi,ZQ];simp
theorem yb:∀(l:List Nat),(∀n∈l,n<18446744073709551616)→(bT l).length≤9*l.length
 | [],_=>X9 _
 |n::l,h=>by
  have h1:=eM n (h n Yk);have h2:=yb l fun n hn=>h n (Yi _ hn)
  unfold bT at h2⊢;rw [Y0,X',Yf];omega
theorem K6 {l:List Nat} {x:Value} (h:oN A l x) (hl:l.length<10000) (hw:∀n∈l,n<18446744073709551616):bL ai 62 [x] A (strOf (bT l)) A:=by
 refine aT (aB Tryz.func62) S5 (by rw [Tryz.ntmps62];simp) (by kernel_rfl) (by kernel_rfl) ?_;have hlen:=h.len;apply W.seq;apply W.run 20
 ·intro M;simp (disch:=first|decide+kernel|omega) only [La,qbM,Aq,X2];rfl
 apply W.seq;apply W.run 20
 ·intro M;simp (disch:=first|decide+kernel|omega) only [La,qbM,Aq,X2];rfl
 apply W.seq;apply W.seq;apply W.run 20
 ·intro M;simp (disch:=first|decide+kernel|omega) only [La,qbM,Aq,X2];rfl
 apply W.block;refine W.up l.length (fun i t D=>D=A∧Sl t [(0,x),(3,strOf (bT (l.take i))),(4,.int .i64 i)]) ?_ (Yg _) ⟨rfl,?_⟩
 ·rintro i t D hi ⟨rfl,g0,g3,g4,-⟩;by_cases hlt:i<l.length
  ·have he:l[i]?=some l[i]:=X6 hlt;have hn:=hw _ (YQ hlt);obtain⟨p,j1,j2⟩:=h.at he;have k1:=fun ih=>WS (ih:=ih) (A:=D) hn
   have hb:=yb (l.take (i+1)) fun n hn=>hw n (List.mem_of_mem_take hn)
   rw [Yo,xW he] at hb;have s1:de .add (bT (l.take i)) (bH l[i])= .ok (strOf (bT (l.take (i+1)))):=by rw [cat (by omega),xW he]
   apply W.run 20
   ·intro M;simp (disch:=first|decide+kernel|omega) only [Ox,La,qbM,Aq,X2,g0,g3,g4,hlen,hlt,j1,j2,k1,s1];rfl
   refine⟨hlt,_,_,rfl,rfl,?_⟩;simp only [av,aw,T.af,T.ag,T.ak,X2,X3,if_true,if_false,and_true,true_and,g0]
  ·have e:i=l.length:=by omega
   subst e;rw [Yw] at g3;apply W.run 20
   ·intro M;simp (disch:=first|decide+kernel|omega) only [Ox,La,qbM,Aq,X2,g0,g4,hlen];rfl
   apply W.seq;apply W.run 20
   ·intro M;simp (disch:=first|decide+kernel|omega) only [La,qbM,Aq,X2,g3];rfl
   apply W.run 20
   ·intro M;simp (disch:=first|decide+kernel|omega) only [La,qbM,Aq,X2];rfl
   exact⟨by simp,rfl,rfl,by simp only [qbM,Aq,X2]<;>rfl⟩
 ·simp only [av,aw,T.af,T.ag,T.ak,X2,X3,if_true,if_false,and_true,true_and];rfl
theorem jR:∀l:List Nat,(l.map jo).flatten=l.map fun n:Nat=>Value.int .u64 n
 | []=>rfl
 |n::l=>by rw [ZB,qaR,jR l];rfl
theorem Dv {D:Mem} {l:List Nat} (h0:l≠ []):az (D.alloc (aa 103 (l.map fun n:Nat=>Value.int .u64 n))) 103 1 D.next (l.map jo) (.slice (some ⟨D.next,0,none⟩) l.length (2*l.length)):=by
 refine .inr ⟨.var l.length,2*l.length,by rw [Yb],by rw [ae];omega,?_,fun c hc=>by obtain⟨n,-,rfl⟩:=YN.1 hc;rfl,.inl (by rw [Yb])⟩;have e:=jR l;rw [e];have:=gQ D 103 (l.map fun n:Nat=>Value.int .u64 n);rwa [Yb] at this
theorem El {D:Mem} {l nl:List Nat} {x:Value} (h:az D 103 1 b (l.map jo) x) (hl:l.length+nl.length≤10000) (h0:nl≠ []):
 ∃x' D' b',bk ai (D.alloc (aa 103 (nl.map fun n:Nat=>Value.int .u64 n))) 117 117 x (.slice (some ⟨D.next,0,none⟩) nl.length (2*nl.length))= .ok (x',D')∧az D' 103 1 b' ((l++nl).map jo) x'∧D.next≤D'.next∧(b'=b∨D.next≤b')∧∀z,z≠b→z<D.next→D'.get z=D.get z:=by
 obtain⟨i,t1,t2,t3⟩:=Sf;have h':az (D.alloc (aa 103 (nl.map fun n:Nat=>Value.int .u64 n))) 103 1 b (l.map jo) x:=h.same (by rw [ae];omega) fun hh=>aH (by omega)
 have hn:=Dv (D:=D) h0;have hv:dD (D.alloc (aa 103 (nl.map fun n:Nat=>Value.int .u64 n))) 103 D.next (.var nl.length) ((nl.map jo).flatten):=by
  have e:=jR nl;rw [e];have:=gQ D 103 (nl.map fun n:Nat=>Value.int .u64 n);rwa [Yb] at this
 obtain⟨x',D',b',e1,e2,e3,e4,e5⟩:=az.oZ (tb:=ai) (st:=117) (xt:=117) (nl:=nl.map jo) (m:=nl.length) h' pL pL rfl Se t1 t2 t3 (by omega) (by omega) (by rw [Yb];omega) (y:=.slice (some ⟨D.next,0,none⟩) nl.length (2*nl.length)) rfl
  (ek hv (by rw [Zf,jR,Yb])) (by rw [Yb]) (fun c hc=>by obtain⟨n,-,rfl⟩:=YN.1 hc;rfl) (by
   intro v hv;obtain⟨c,hc,hv⟩:=List.mem_flatten.1 hv;obtain⟨n,-,rfl⟩:=YN.1 hc;rw [Y7.1 hv];rfl)
 rw [ae] at e3 e4 e5;refine⟨x',D',b',e1,by rw [YV];exact e2,by omega,by omega,fun z hz hzn=>by rw [e5 z (fun e=>absurd e hz) (by omega),aH (by omega)]⟩
theorem QO {a b c d:Int}:bc ai 117 4 [(0,.int .u64 a),(1,.int .u64 b),(2,.int .u64 c),(3,.int .u64 d)]= .ok (aa 103 [.int .u64 a,.int .u64 b,.int .u64 c,.int .u64 d],.m_ 4 8):=by kernel_rfl
theorem PO {a b c:Int}:bc ai 117 3 [(0,.int .u64 a),(1,.int .u64 b),(2,.int .u64 c)]= .ok (aa 103 [.int .u64 a,.int .u64 b,.int .u64 c],.m_ 3 6):=by kernel_rfl
theorem Is (t:T Value):ev t (.const (.string ⟨#[67,77,1]⟩))= .ok (strOf [67,77,1]):=rfl
theorem GY {l:List (Nat×Nat×Nat)} {s:Nat×Nat×Nat} (h:l[i]?=some s):dk (l.take (i+1))=dk (l.take i)++[s.1,s.2.1,s.2.2]:=by
 obtain⟨hi,rfl⟩:=X_.1 h;unfold dk;rw [Yd hi,ZQ];simp
theorem tV:∀l:List (Nat×Nat×Nat),(dk l).length=3*l.length
 | []=>rfl
 |s::l=>by
  have:=tV l;unfold dk at this⊢;rw [Y0,X',this];simp;omega
theorem DX {next:Nat}:∀{l:List (Nat×Nat×Nat)},(∀s∈l,IZ next s)→next≤900000000→∀n∈dk l,n<18446744073709551616
 |s::l,h,hn,n,hm=>by
  unfold dk at hm;rw [Y0] at hm;rcases Zs.1 hm with hm|hm
  ·obtain⟨⟨_,_⟩,⟨_,_⟩,_,_⟩:=h s Yk;simp only [Yp,YH,or_false] at hm;rcases hm with rfl|rfl|rfl<;>omega
  ·exact DX (fun s hs=>h s (Yi _ hs)) hn n hm
noncomputable def Hu:Code:=qbn.body.getD .skip
noncomputable def NN:Code:=sub Hu [1,1,1,0,1,0,0]
theorem Su:qbn.body=some (.seq (sub Hu [0]) (.seq (sub Hu [1,0]) (.seq (sub Hu [1,1,0]) (.seq (.seq (sub Hu [1,1,1,0,0]) (.block 0 (.loop NN))) (.seq (sub Hu [1,1,1,1,0]) (sub Hu [1,1,1,1,1])))))):=by kernel_rfl
theorem OF {m:iK} {x:Value} (h:fg A m.segs x) (hm:oQ m):∃v A',bL ai 24 [.agg ⟨bS x m⟩] A v A'∧v= .tuple ⟨[strOf (crc.aK (gx m)),.int .i64 (0:Nat)]⟩∧Kp A A':=by
 refine cS (aB Tryz.func24) Su (by rw [Tryz.ntmps24];simp) (by kernel_rfl) (by kernel_rfl) ?_;have kB:=Kp.alloc A (aa 36 (bS x m));have vB:=aF A 36 (bS x m);apply W.seq;apply W.run 20
 ·intro M;simp (disch:=first|decide+kernel|omega) only [Hu,qbn,Aq,X2,au];rfl
 show W ai _ _ _;have hB:=h.kp kB;generalize A.alloc (aa 36 (bS x m))=B at kB vB hB;obtain⟨d,hd1,hd2⟩:=bA (t:=36) (p:=true) (by kernel_rfl);have lB:aq ai B.get 36 (pw A.next 0)= .ok (.agg ⟨bS x m⟩):=aQ hd1 hd2 jH vB.2;obtain⟨v,C,⟨g1,h1⟩,rfl,kC⟩:=FX hB hm;obtain⟨m1,⟨m2,m2'⟩,m3,m4,m5⟩:=hm;have vC:=vB.kp kC;have hC:=hB.kp kC;have l0:aq ai C.get 3 (pw A.next 0)= .ok (.int .i64 m.ver):=vC.ld rfl u3 rfl;have l1:aq ai C.get 3 (pw A.next (0+1))= .ok (.int .i64 (1:Nat)):=vC.ld rfl u3 rfl;have l2:aq ai C.get 3 (pw A.next (0+2))= .ok (.int .i64 m.next):=vC.ld rfl u3 rfl;have l3:∀D,Kp C D→aq ai D.get 34 (pw A.next (0+3))= .ok x:=fun D hD=>(vC.kp hD).ld rfl Fo rfl
 have l3C:=l3 C (Kp.refl _);have lenC:=hC.len;have cv:∀n,n<9223372036854775808→gj ai 3 103 (.int .i64 (n:Nat))= .ok (.int .u64 (n:Nat)):=fun n hn=>bu (by rw [u3];rfl) ff (cL (by omega))
 have c0:=cv m.ver (by omega);have c1:=cv 1 (by omega);have c2:=cv m.next (by omega)
 have c3:=cv m.segs.length (by omega);apply W.seq;apply W.a6 (g1) 20
 ·intro M hM;simp (disch:=first|decide+kernel|omega) only [Hu,qbn,Aq,X2,lB,h1];rfl
 show W ai _ _ _;have kD:=Kp.alloc C (aa 103 [.int .u64 m.ver,.int .u64 (1:Nat),.int .u64 m.next,.int .u64 m.segs.length]);have hN:az (C.alloc (aa 103 [.int .u64 m.ver,.int .u64 (1:Nat),.int .u64 m.next,.int .u64 m.segs.length])) 103 1 C.next ([m.ver,1,m.next,m.segs.length].map jo) (.slice (some ⟨C.next,0,none⟩) 4 8):=Dv (D:=C) (l:=[m.ver,1,m.next,m.segs.length]) (by simp)
 apply W.seq;apply W.run 20
 ·intro M;simp (disch:=first|decide+kernel|omega) only [Hu,qbn,Aq,X2,IC,L0,Df,mi,l0,l1,l2,l3C,lenC,c0,c1,c2,c3,QO];rfl
 show W ai _ _ _;generalize C.alloc (aa 103 [.int .u64 m.ver,.int .u64 (1:Nat),.int .u64 m.next,.int .u64 m.segs.length])=D at kD hN;apply W.seq;apply W.seq;apply W.run 20
 ·intro M;simp (disch:=first|decide+kernel|omega) only [Hu,qbn,Aq,X2];rfl
 apply W.block;refine W.up m.segs.length (fun i t D=>∃b y,az D 103 1 b (([m.ver,1,m.next,m.segs.length]++dk (m.segs.take i)).map jo) y∧C.next≤b∧Kp C D∧Sl t [(1,pw A.next 0),(4,y),(5,.int .i64 i)]) ?_ (Yg _) ⟨_,_,by simpa [dk] using hN,X9 _,kD,?_⟩
 ·rintro i t D hi ⟨b,y,hS,hb,kD,g1,g4,g5,-⟩;have lD:=l3 D kD;have hD:=hC.kp kD;have lenD:=hD.len;by_cases hlt:i<m.segs.length
  ·have hMi:m.segs[i]?=some m.segs[i]:=X6 hlt;obtain⟨⟨s1,s2⟩,⟨s3,Q5⟩,s4,s4'⟩:=m4 _ (YQ hlt);obtain⟨bb,o,j1,-,j2,j3,j4⟩:=hD.at hMi;have htk:=GY hMi;have hl3:=tV (m.segs.take i);rw [Yo] at hl3;generalize m.segs[i]=s at*;have e0:=cv s.1 (by omega);have e1:=cv s.2.1 (by omega);have e2:=cv s.2.2 (by omega);obtain⟨x',E,b',happ,hS',hn',hb',hf'⟩:=El (nl:=[s.1,s.2.1,s.2.2]) hS (by simp only [X',Yf,Ys];omega) (by simp);have happ':bk ai (D.alloc (aa 103 [.int .u64 s.1,.int .u64 s.2.1,.int .u64 s.2.2])) 117 117 y (.slice (some ⟨D.next,0,none⟩) 3 6)= .ok (x',E):=happ;apply W.run 20
   ·intro M;simp (config:={maxSteps:=4000000}) (disch:=first|decide+kernel|omega|simp only [Wq,X2]) only [NN,Hu,qbn,Aq,X5,reduceIte,X2,X3,g1,g4,g5,mi,lD,lenD,hlt,j1,j2,j3,j4,sr,AM,vn,e0,e1,e2,PO,happ',Fq,aC []];rfl
   have hk1:=kD.1;refine⟨hlt,_,_,rfl,b',x',by rw [htk,←Y1];exact hS',by omega,⟨by omega,fun z hz=>by rw [hf' z (by omega) (by omega),kD.2 z hz]⟩,?_⟩;simp only [av,aw,T.af,T.ag,T.ak,X2,X3,if_true,if_false,and_true,true_and,g1]
  ·have e:i=m.segs.length:=by omega
   subst e;rw [Yw] at hS;have hl3:=tV m.segs;have hnum:∀n∈ [m.ver,1,m.next,m.segs.length]++dk m.segs,n<18446744073709551616:=fun n hn=>by
    rcases Zs.1 hn with hn|hn
    ·simp only [Yp,YH,or_false] at hn;rcases hn with rfl|rfl|rfl|rfl<;>omega
    ·exact DX m4 m2' n hn
   have hll:([m.ver,1,m.next,m.segs.length]++dk m.segs).length<10000:=by simp only [X',Yf,Ys];omega
   obtain⟨g2,h2⟩:=K6 ⟨b,hS⟩ hll hnum;have hbl:=yb _ hnum;have s1:de .add [67,77,1] (bT ([m.ver,1,m.next,m.segs.length]++dk m.segs))= .ok (strOf (gx m)):=cat (by rw [X'];simp only [Yf,Ys];omega);simp only [YT,Y6] at s1;have ks:=fun ih=>R9 (ih:=ih) (A:=D) (s:=gx m) (by unfold gx;rw [X'];simp only [Yf,Ys];omega)
   apply W.run 20
   ·intro M;simp (disch:=first|decide+kernel|omega) only [NN,Hu,qbn,Aq,X2,g1,g5,mi,lD,lenD];rfl
   apply W.seq;apply W.a6 (g2) 20
   ·intro M hM;simp (disch:=first|decide+kernel|omega) only [Hu,qbn,Aq,X2,g4,h2,Is,s1,ks];rfl
   apply W.run 20
   ·intro M;simp (disch:=first|decide+kernel|omega) only [Hu,qbn,Aq,X2];rfl
   exact⟨by simp,rfl,_,(by simp only [qbn,Aq,X2]<;>rfl),rfl,kB.trans (kC.trans kD)⟩
 ·simp only [av,aw,T.af,T.ag,T.ak,X2,X3,if_true,if_false,and_true,true_and]
end Go.Proofs.YtggndfefpbmaeaaGreatDoor.sto
end
