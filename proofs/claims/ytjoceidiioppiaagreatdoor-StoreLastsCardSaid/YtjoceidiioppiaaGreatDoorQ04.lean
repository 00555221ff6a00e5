/- The abstract machine, the walk of the law and its plain laws, made small by a program; part 4: no conditions but those in each theorem. -/
import Derived.Test.YtjoceidiioppiaaGreatDoorQ03
import Derived.Test.YtjoceidiioppiaaGreatDoorChecked
import Derived.KernelRfl
import Derived.Shelf.SlIter.Nil
import Derived.Shelf.SlIter.Sorted
import Derived.Shelf.SortM.Plain
import Derived.Shelf.SortM.SortNone
set_option maxHeartbeats 16000000
set_option maxRecDepth 100000
set_option linter.unusedSimpArgs false
set_option linter.unusedVariables false
noncomputable section
open Nat renaming reduceEqDiff→qal,reduceAdd→qam,le_refl→qao,ble→qaq,beq→qaw,blt→qax,zero_le→qaB,lt_of_lt_of_le→qaD,le_of_ble_eq_true→qaG,blt_eq→qaH,eq_of_beq_eq_true→qaL,le_trans→qaV,lt_or_ge→qaZ,zero_add→qa1,add_zero→qa8,lt_of_le_of_lt→qbj,shiftRight_eq_div_pow→qbn,sub_self→qbq,min_eq_left→qbr,pow_le_pow_right→qbz,sub_zero→qbA,mod_lt→qbE,mod_eq_of_lt→qbL,lt_succ_self→qbP,mul_one→qb2,add_assoc→qck,mod_two_eq_zero_or_one→qct,beq_eq→qcI,strongRecOn→qcL,two_pow_pos→qcM,lt_trichotomy→qcT,xor_assoc→qcU,min_eq_right→qc6,lt_irrefl→qdh,ble_eq→qdm,add_comm→qdt,min_le_right→qdu,not_lt_zero→qdD,xor_lt_two_pow→qdE,div_lt_iff_lt_mul→qdU,pow_succ→qdW,sub_lt_sub_left→qec,min_le_left→qef,log2_lt→qer,pow_add→qes,shiftLeft_eq→qex,le_of_lt→qeF,le_total→qeG,sub_le→qeH,xor_zero→qeI
open List renaming getElem?_eq_getElem→qan,getElem?_eq_some_iff→qap,length_append→qar,length_map→qas,getElem?_cons_zero→qau,getElem?_cons_succ→qav,mem_cons_of_mem→qay,mem_cons_self→qaz,length_cons→qaA,take_succ_eq_append_getElem→qaC,length_take→qaE,getElem?_append_right→qaF,getElem?_append_left→qaJ,mem_cons→qaK,getElem?_map→qaN,length_eq_zero_iff→qaP,length_set→qaQ,take_length→qaR,length_singleton→qaS,length_nil→qaT,mem_singleton→qaY,mem_map→qa3,replicate→qa7,getD_eq_getElem?_getD→qa9,not_mem_nil→qbb,map_append→qbe,cons_append→qbf,append_assoc→qbh,drop_eq_getElem_cons→qbi,flatMap_cons→qbl,getElem?_take→qbm,filter_cons→qbp,append_nil→qbt,foldl_cons→qbu,nil_append→qbv,map_cons→qbx,all_eq_true→qby,mem_append→qbF,range→qbN,mem_or_eq_of_mem_set→qbR,mem_filter→qbV,getElem?_drop→qcc,findIdx?_eq_some_iff_getElem→qco,map_nil→qcp,take_append_drop→qcx,length→qcE,range'→qcF,foldl_append→qcR,getElem?_range→qcZ,length_drop→qc3,set_append_right→qdd,exists_mem_of_ne_nil→qdl,mem_flatMap→qds,filter_eq_self→qdz,drop_eq_nil_of_le→qdK,nodup_append→qdR,drop_eq_nil_iff→qd3,findIdx?_eq_none_iff→qed,all_cons→qet,map→qew
open Bool renaming false_eq_true→qaI,and_eq_true→qaO,and_true→qci,not_true→qcj,true_and→qcs,or_eq_false_iff→qcH,not_false→qc1,false_and→qdT,or_eq_true→qeC
open Array renaming getElem?_eq_some_iff→qaM,getElem?_toList→qaU,length_toList→qb5
open Int renaming ofNat→qaW,toNat_natCast→qdj
open Option.some renaming injEq→qaX
open List.cons renaming injEq→qa4
open Option renaming map_some→qa5,getD_some→qbG,ne_none_iff_exists'→qd8
open Go.Proofs.Tryz renaming prog→qba,f239→qbJ,f234→qb0,f211→qb4,f123→qcz,f209→qcC,f226→qcD,checked→qcO,f227→qcX,f248→qd0,f263→qd1,underlying9→qd7,underlying4→qeA,zeroValue9→qeK
open UInt8 renaming ofNat→qbD,toNat_inj→qdf,toNat_ofNat_of_lt'→qdy
open Classical renaming byContradiction→qca
open Int.ofNat renaming inj→qdC
open Array.mk renaming injEq→qeL
namespace Go.Proofs.YtjoceidiioppiaaGreatDoor.sto
open Go.Am
variable {n:Nat}
theorem cV (h:n<18446744073709551616):iy .u64 (n:Int)=true:=by
 show qax n (2^64)=true;rw [qaH];exact h
theorem aV (h:n<9223372036854775808):iy .i64 (n:Int)=true:=by
 show qax n (2^63)=true;rw [qaH];exact h
theorem jm (h:n<256):iy .u8 (n:Int)=true:=by
 show qax n 256=true;rw [qaH];exact h
theorem mS {k:IntKind} (h:iy k (n:Int)=true):dm k (n:Int)=(n:Int):=by unfold dm;rw [h];rfl
variable {tb:bO} {k':IntKind}
theorem bM {s d:TypeId} {k:IntKind} (hs:(tb.ba s).isSome=true) (hd:tb.ba d=some (.int k')) (h:iy k' (n:Int)=true):gi tb s d (.int k (n:Int))= .ok (.int k' (n:Int)):=by
 have e:gi tb s d (.int k (n:Int))= .ok (.int k' (dm k' (n:Int))):=by
  unfold gi;rw [hd];cases hq:tb.ba s with
  |none=>rw [hq] at hs;cases hs
  |some _=>rfl
 rw [e,mS h]
theorem NA {s d:TypeId} {k:IntKind} (hs:(tb.ba s).isSome=true) (hd:tb.ba d=some (.int .u8)):gi tb s d (.int k (n:Int))= .ok (.int .u8 (n % 256:Nat)):=by
 have e:gi tb s d (.int k (n:Int))= .ok (.int .u8 (dm .u8 (n:Int))):=by
  unfold gi;rw [hd];cases hq:tb.ba s with
  |none=>rw [hq] at hs;cases hs
  |some _=>rfl
 rw [e,pn]
variable {b:Nat}
theorem bf {k:IntKind} {a:Nat} (h:iy k ((a+b:Nat):Int)=true):aM .add k (a:Int) (b:Int)= .ok (.int k ((a+b:Nat):Int)):=by
 show R.ok (Value.int k (dm k ((a:Int)+(b:Int))))=_;rw [show(a:Int)+(b:Int)=((a+b:Nat):Int) by omega,mS h]
theorem br {k:IntKind} {a:Nat} (hb:b≤a) (h:iy k ((a-b:Nat):Int)=true):aM .sub k (a:Int) (b:Int)= .ok (.int k ((a-b:Nat):Int)):=by
 show R.ok (Value.int k (dm k ((a:Int)-(b:Int))))=_;rw [show(a:Int)-(b:Int)=((a-b:Nat):Int) by omega,mS h]
theorem j5 {k:IntKind} {a:Nat} (h:iy k ((a*b:Nat):Int)=true):aM .mul k (a:Int) (b:Int)= .ok (.int k ((a*b:Nat):Int)):=by
 show R.ok (Value.int k (dm k ((a:Int)*(b:Int))))=_;rw [show(a:Int)*(b:Int)=((a*b:Nat):Int) by simp,mS h]
theorem LA {a:Nat} (ha:a<18446744073709551616) (hb:b<18446744073709551616):aM .or .u64 (a:Int) (b:Int)= .ok (uN (a|||b)):=by
 show(bif iy .u64 (a:Int)&&iy .u64 (b:Int) then R.ok (Value.int .u64 (a|||b:Nat)) else .no 11)=_;rw [cV ha,cV hb];rfl
theorem S6 {d:Option TypeDesc} {a:Nat} (h:b<64) (h2:a<<<b<18446744073709551616):iM .shl d (.int .u64 a) (.int k' (b:Int))= .ok (uN (a<<<b)):=by
 have e:iM .shl d (.int .u64 a) (.int k' (b:Int))=(bif qax b 64 then R.ok (Value.int .u64 (dm .u64 ((a<<<b:Nat):Int))) else .ok (.int .u64 0)):=rfl;have hb:qax b 64=true:=by rw [qaH];exact h
 rw [e,hb,cond_true,mS (cV h2)]
theorem R_ {ts:List TypeId} {a:Nat}:aN tb .min ts [.int .u64 a,.int .u64 b]= .ok (.int .u64 (min a b:Nat)):=by
 have e:aN tb .min ts [.int .u64 a,.int .u64 b]= .ok (.int .u64 (bif qax b a then(b:Int) else(a:Int))):=by
  cases ts<;>rfl
 rw [e];cases h:qax b a with
 |true=>
  have:b<a:=by simpa [qaH] using h
  rw [qc6 (by omega)];rfl
 |false=>
  have:¬b<a:=by intro hx;rw [←qaH,h] at hx;cases hx
  rw [qbr (by omega)];rfl
theorem Dz {d:Option TypeDesc} {a:Nat} (h:b<64):iM .shr d (.int .u64 a) (.int k' (b:Int))= .ok (uN (a>>>b)):=by
 have e:iM .shr d (.int .u64 a) (.int k' (b:Int))= .ok (.int .u64 (.ofNat (Nat.shiftRight a (bif qax b 64 then b else 64)))):=rfl;have hb:qax b 64=true:=by rw [qaH];exact h
 rw [e,hb,cond_true];rfl
def gD (n:Nat):Nat:=if n=0 then 0 else n.log2+1
theorem wM {a:Nat} (h:2^a≤n):gD n=a+gD (n>>>a):=by
 have hn:n≠0:=by have:=qcM a;omega
 have hd:n/2^a≠0:=by
  have:=(Nat.le_div_iff_mul_le (qcM a)).2 (show 1*2^a≤n by omega);omega
 unfold gD;rw [qbn,if_neg hn,if_neg hd];have h1:n.log2=a+(n/2^a).log2:=by
  apply Nat.le_antisymm
  ·have:n.log2<a+(n/2^a).log2+1:=by
    rw [qer hn,show a+(n/2^a).log2+1=((n/2^a).log2+1)+a by omega,qes];have:=(qer hd).1 (qbP _);exact(qdU (qcM a)).1 this
   omega
  ·rw [Nat.le_log2 hn,qdt,qes];exact(Nat.le_div_iff_mul_le (qcM a)).1 ((Nat.le_log2 hd).1 (qao _))
 omega
theorem AW {l:List UInt8} (hl:(qaw l.length 256&&(qbN 256).all fun i=>qaw (l.getD i 0).toNat (gD i))=true) (h:n<256):nf cg 9 (aj l) (.int .u8 n)= .ok (bN (gD n)):=by
 rw [qaO] at hl;have e1:=qaL hl.1;rw [dQ ov (by omega),qaL (qby.1 hl.2 n (List.mem_range.2 h))]
theorem Cf (h:n<256):gD n<256:=by
 unfold gD;split
 ·omega
 ·rename_i h0;have:=(qer h0 (k:=8)).2 h;omega
theorem half (n a b:Nat) (h:n<2^(a+b)):∃x s,gD n=s+gD x∧x<2^max a b∧s≤a∧((x=n>>>a∧s=a∧2^a≤n)∨(x=n∧s=0∧¬2^a≤n)):=by
 by_cases ha:2^a≤n
 ·refine⟨n>>>a,a,wM ha,?_,qao _,.inl ⟨rfl,rfl,ha⟩⟩;rw [qbn];refine qaD ((qdU (qcM a)).2 (by rw [←qes,qdt b a];exact h)) (qbz (by omega) (Nat.le_max_right a b))
 ·exact⟨n,0,by omega,qaD (by omega) (qbz (by omega) (Nat.le_max_left a b)),qaB _,.inr ⟨rfl,rfl,ha⟩⟩
variable {A:Mem}
theorem L4 (n:Nat) (hn:n<18446744073709551616):bg cg 261 [.int .u64 n] A (iN (gD n)) A:=by
 obtain⟨x1,s1,e1,b1,m1,h1⟩:=half n 32 32 hn;obtain⟨x2,s2,e2,b2,m2,h2⟩:=half x1 16 16 b1;obtain⟨x3,s3,e3,b3,m3,h3⟩:=half x2 8 8 b2;have b3:x3<256:=b3;have e:gD n=s1+s2+s3+gD x3:=by omega
 have hb:=Cf b3;have c1:=bM (tb:=cg) (s:=113) (d:=5) (k:=.u64) (n:=x3) (by rw [gZ];rfl) mR (jm b3);have c2:=bM (tb:=cg) (s:=5) (d:=3) (k:=.u8) (n:=gD x3) (by rw [mR];rfl) DN (aV (by omega));rw [e];clear e e1 e2 e3 b1 b2 hn m1 m2 m3;simp only [Nat.reducePow] at h1 h2 h3;rcases h1 with⟨rfl,rfl,h1⟩|⟨rfl,rfl,h1⟩<;>rcases h2 with⟨rfl,rfl,h2⟩|⟨rfl,rfl,h2⟩<;>rcases h3 with⟨rfl,rfl,h3⟩|⟨rfl,rfl,h3⟩
 all_goals
  refine bm 60 (bH Tryz.func261) (by kernel_rfl) fun M=>?_
  simp (disch:=first|decide+kernel|omega) only [Tryz.f261,Aq,qal,ef,cL,h1,h2,h3,c1,c2,AW,Dz,qa1,qa8]<;>rfl
def bX (n:Nat):Nat:=(gD n+7)/8
def jY (n:Nat):Nat:=if n<248 then 1 else 1+bX n
def cZ (l:List UInt8):List Value:=l.map eo
theorem cI (l:List UInt8):(cZ l).length=l.length:=by simp [cZ]
variable {c:Nat}
theorem Cm (h:c<256):eo (.ofNat c)= .int .u8 c:=by
 show Value.int .u8 (qaW (qbD c).toNat)=_;rw [qdy h];rfl
def rV (n:Nat):Nat→List UInt8
 |0=>[]
 |i+1=>rV n i++[.ofNat (n>>>(8*i) % 256)]
def cK (n:Nat):List UInt8:=if n<248 then [.ofNat n] else .ofNat (247+bX n)::rV n (bX n)
theorem i_ (n:Nat):∀i,(rV n i).length=i
 |0=>rfl
 |i+1=>by unfold rV;rw [qar,i_ n i];rfl
theorem IN (h:n<18446744073709551616):gD n≤64:=by
 unfold gD;split
 ·omega
 ·rename_i h0;have:=(qer h0 (k:=64)).2 h;omega
theorem pP (h:n<18446744073709551616):bX n≤8:=by have:=IN h;unfold bX;omega
theorem Qq:cg.ba 313=some (.array 9 5):=by kernel_rfl
theorem uU:aR cg 5= .ok 1:=by kernel_rfl
theorem Yw:aR cg 3= .ok 1:=by kernel_rfl
theorem J_:aR cg 315= .ok 10:=by kernel_rfl
theorem YR:bS cg 315= .ok (.agg ⟨[.int .u8 0,.int .u8 0,.int .u8 0,.int .u8 0,.int .u8 0,.int .u8 0,.int .u8 0,.int .u8 0,.int .u8 0,.int .i64 0]⟩):=by kernel_rfl
theorem Hx:av cg 315 (pw b 0) 0= .ok (pw b 0):=by kernel_rfl
theorem NX:av cg 315 (pw b 0) 1= .ok (pw b 9):=by kernel_rfl
variable {i:Nat}
theorem Ou (h:i<9):aU cg 313 (pw b 0) (.int .i64 i)= .ok (pw b i):=by
 have:=l_ (tb:=cg) (b:=b) (o:=0) (k:=.i64) Qq uU h;rwa [qa1] at this
def W5 (l:List Value):Prop:=l.length=10∧∀v∈l,aJ v=true
variable {l:List Value} {o:Nat}
theorem Yx {n:Int} (h:l.length=10) (ho:o<10):aW cg (A.alloc (aa 315 l)) 5 (pw A.next o) (.int .u8 n)= .ok (A.alloc (aa 315 (l.set o (.int .u8 n)))):=eG uU rfl rfl (by omega)
theorem DY {n:Int} (h:l.length=10):aW cg (A.alloc (aa 315 l)) 3 (pw A.next 9) (.int .i64 n)= .ok (A.alloc (aa 315 (l.set 9 (.int .i64 n)))):=eG Yw rfl rfl (by omega)
theorem Jv (h:l.length=10):ag cg (A.alloc (aa 315 l)).get 315 (pw A.next 0)= .ok (.agg ⟨l⟩):=xW (by rw [J_,h]) (by kernel_rfl)
theorem TY (h:W5 l):aW cg (A.alloc (aa 315 l)) 315 (pw A.next 0) (.agg ⟨l⟩)= .ok (A.alloc (aa 315 l)):=bk (by rw [J_,h.1]) rfl rfl (by intro e;have:=h.1;rw [e] at this;cases this) h.2
def ia (bs:List UInt8) (k:Nat) (n:Int):List Value:=cZ bs++qa7 k (.int .u8 0)++[.int .i64 n]
def kT (n:Nat):List Value:=ia (cK n) (9-jY n) (jY n:Nat)
variable {bs:List UInt8} {k:Nat}
theorem C8 {w:Int} (hc:c<256):(ia bs (k+1) w).set bs.length (.int .u8 c)=ia (bs++[.ofNat c]) k w:=by
 unfold ia cZ;rw [qbe,List.map_singleton,Cm hc,qbh,qdd _ _ (by simp),qas,qbq,List.replicate_succ];simp
theorem Jt {w v:Int} (h:bs.length+k=9):(ia bs k w).set 9 (.int .i64 v)=ia bs k v:=by
 unfold ia;rw [qdd _ _ (by simp [cI];omega)];simp [cI,h]
theorem pN {w:Int} (h:bs.length+k=9):W5 (ia bs k w):=by
 refine⟨by simp [ia,cI];omega,fun v hv=>?_⟩;simp only [ia,cZ,qbF,qa3,List.mem_replicate,qaY] at hv;rcases hv with(⟨_,-,rfl⟩|⟨-,rfl⟩)|rfl<;>rfl
noncomputable def mY:Code:=qcD.body.getD .skip
noncomputable def G6:Code:=sub mY [1,1,1,1,0,1,0,0]
theorem CB:qcD.body=some (.seq (sub mY [0]) (.seq (sub mY [1,0]) (.seq (sub mY [1,1,0]) (.seq (sub mY [1,1,1,0]) (.seq (.seq (sub mY [1,1,1,1,0,0]) (.block 0 (.loop G6))) (.seq (sub mY [1,1,1,1,1,0]) (.seq (sub mY [1,1,1,1,1,1,0]) (sub mY [1,1,1,1,1,1,1])))))))):=by kernel_rfl
def WV (tb:bO) (fn:Func) (Q:Value→Mem→Prop) (e:Ex) (s:St):Prop:=(e= .nrm∨e= .ret)∧s.d=[]∧∃v,(eV tb s.t s.m.get fn.results.toList).bind (fun vs=>.ok (oneOf vs))= .ok v∧Q v s.m
variable {fn:Func}
theorem cF {f:FuncId} {c:Code} {args:List Value} {Q:Value→Mem→Prop} (hf:tb.fn.get f=some fn) (hb:fn.body=some c) (ho:okF tb f fn args=true)
 (h:W tb c ⟨T.bK .e 0 args,fn.ntmps,[],A,none⟩ (WV tb fn Q)):∃v A',bg tb f args A v A'∧Q v A':=by
 obtain⟨-,hn,hnm,hk⟩:=HS ho;refine eL hf hb hn hnm hk (h.mono fun e s hs=>?_);obtain⟨h1,h2,v,h3,h4⟩:=hs;rw [h2];cases hr:eV tb s.t s.m.get fn.results.toList with
 |no _=>rw [hr] at h3;cases h3
 |ok vs=>
  rw [hr] at h3;cases h3;exact⟨h1,s.m,vs,rfl,hr,h4⟩
theorem JY (hn:n<18446744073709551616):∃v A',bg cg 226 [.int .u64 n] A v A'∧v= .agg ⟨kT n⟩:=by
 refine cF (bH Tryz.func226) CB (by kernel_rfl) ?_;have z10:W5 (ia [] 9 0):=pN rfl;apply W.q
 ·intro M;simp (disch:=first|decide+kernel|omega) only [mY,qcD,Aq,qal,YR,au];rfl
 rw [show aa 315 [Value.int .u8 0,.int .u8 0,.int .u8 0,.int .u8 0,.int .u8 0,.int .u8 0,.int .u8 0,.int .u8 0,.int .u8 0,.int .i64 0]=aa 315 (ia [] 9 0) from rfl];have zl:=z10.1;apply W.seq;by_cases h:n<248
 ·have c1:=bM (tb:=cg) (s:=113) (d:=5) (k:=.u64) (n:=n) (by rw [gZ];rfl) mR (jm (by omega));have p1:(ia [] 9 0).set 0 (.int .u8 n)=ia [.ofNat n] 8 0:=C8 (bs:=[]) (k:=8) (by omega);have p2:=Jt (bs:=[.ofNat n]) (k:=8) (w:=0) (v:=((1:Nat):Int)) rfl;have t1:W5 (ia ([.ofNat n]) 8 0):=pN rfl;have t2:W5 (ia ([.ofNat n]) 8 ((1:Nat):Int)):=pN rfl;have e1:=t1.1;have e2:=t2.1;have e3:=TY (A:=A) t2;have hL:ia ([.ofNat n]) 8 ((1:Nat):Int)=kT n:=by unfold kT cK jY;rw [if_pos h,if_pos h]
  apply W.run 20
  ·intro M;simp (disch:=first|decide+kernel|omega) only [mY,qcD,Aq,qal,h,c1,Hx,NX,Ou,Yx,DY,zl,e1,e2,Jv,e3,p1,p2];rfl
  exact⟨by simp,rfl,_,(by simp only [qcD,Aq,qal,Jv,e2]<;>rfl),by rw [hL]⟩
 ·obtain⟨g,hg⟩:=L4 (A:=A.alloc (aa 315 (ia [] 9 0))) n hn;have hm:=pP hn;have hb:=IN hn;have q1:gD n+8-1=gD n+7:=by omega
  have c1:=bM (tb:=cg) (s:=3) (d:=5) (k:=.i64) (n:=247+bX n) (by rw [DN];rfl) mR (jm (by omega));have a1:aM .add .i64 ((247:Nat):Int) ((bX n:Nat):Int)= .ok (iN (247+bX n)):=bf (aV (by omega));have p1:(ia [] 9 0).set 0 (bN (247+bX n))=ia [.ofNat (247+bX n)] 8 0:=C8 (bs:=[]) (k:=8) (by omega);apply W.run 20
  ·intro M;simp (disch:=first|decide+kernel|omega) only [mY,qcD,Aq,qal,h];rfl
  apply W.qG (g)
  ·intro M hM;simp (disch:=first|decide+kernel|omega) only [mY,qcD,Aq,qal,hg,br,aV,q1];rfl
  rw [show(gD n+7)/8=bX n from rfl];apply W.q
  ·intro M;simp (disch:=first|decide+kernel|omega) only [mY,qcD,Aq,qal,a1,c1,Hx,Ou,Yx,zl,p1];rfl
  apply W.seq;apply W.q
  ·intro M;simp (disch:=first|decide+kernel|omega) only [mY,qcD,Aq,qal];rfl
  apply W.block;have hbl:∀i,(qbD (247+bX n)::rV n i).length=1+i:=fun i=>by rw [qaA,i_];omega
  refine W.up (bX n) (fun i t D=>D=A.alloc (aa 315 (ia (.ofNat (247+bX n)::rV n i) (8-i) 0))∧Sl t [(0,.int .u64 n),(2,pw A.next 0),(3,iN (bX n)),(23,iN (bX n)),(24,.int .i64 i)]) ?_ (qaB _) ⟨rfl,?_⟩
  ·rintro i t D hi ⟨rfl,g0,g2,g3,g23,g24,-⟩;have z2:=(pN (w:=0) (show(qbD (247+bX n)::rV n i).length+(8-i)=9 by rw [hbl];omega)).1;by_cases hlt:i<bX n
   ·have m1:aM .mul .i64 ((8:Nat):Int) ((i:Nat):Int)= .ok (iN (8*i)):=j5 (aV (by omega));have a2:aM .add .i64 ((1:Nat):Int) ((i:Nat):Int)= .ok (iN (1+i)):=bf (aV (by omega));have c2:=NA (tb:=cg) (s:=113) (d:=5) (k:=.u64) (n:=n>>>(8*i)) (by rw [gZ];rfl) mR;have p2:=C8 (bs:=.ofNat (247+bX n)::rV n i) (k:=8-(i+1)) (c:=n>>>(8*i) % 256) (w:=0) (by omega);rw [hbl,show 8-(i+1)+1=8-i by omega] at p2;apply W.run 20
    ·intro M;simp (disch:=first|decide+kernel|omega) only [G6,mY,qcD,Aq,qal,g0,g2,g23,g24,hlt,m1,a2,c2,Dz,Hx,Ou,Yx,z2,p2];rfl
    refine⟨hlt,_,_,rfl,rfl,?_⟩;simp only [Sq,qal,qam,g0,g2,g3,g23]
   ·have hin:i=bX n:=by omega
    subst hin;have a2:aM .add .i64 ((1:Nat):Int) ((bX n:Nat):Int)= .ok (iN (1+bX n)):=bf (aV (by omega));have h9:(qbD (247+bX n)::rV n (bX n)).length+(8-bX n)=9:=by rw [hbl];omega
    have p3:=Jt (w:=0) (v:=((1+bX n:Nat):Int)) h9;have t3:=pN (w:=((1+bX n:Nat):Int)) h9;have e3:=TY (A:=A) t3;have z3:=t3.1;have hL:ia (.ofNat (247+bX n)::rV n (bX n)) (8-bX n) ((1+bX n:Nat):Int)=kT n:=by unfold kT cK jY;rw [if_neg h,if_neg h,show 9-(1+bX n)=8-bX n by omega]
    apply W.run 20
    ·intro M;simp (disch:=first|decide+kernel|omega) only [G6,mY,qcD,Aq,qal,g23,g24,hlt];rfl
    apply W.q
    ·intro M;simp (disch:=first|decide+kernel|omega) only [mY,qcD,Aq,qal,g2,g3,a2,NX,DY,z2,p3];rfl
    apply W.run 20
    ·intro M;simp (disch:=first|decide+kernel|omega) only [mY,qcD,Aq,qal,g2,Jv,z3,e3];rfl
    exact⟨by simp,rfl,_,(by simp only [qcD,Aq,qal,g2,Jv,z3]<;>rfl),by rw [hL]⟩
  ·simp only [Sq,qal,qam]
theorem rY (n:Nat):(cK n).length=jY n:=by
 unfold cK jY;split
 ·rfl
 ·rw [qaA,i_];omega
theorem Jw (hn:n<18446744073709551616):jY n≤9:=by
 have:=pP hn;unfold jY;split<;>omega
theorem OE (hn:n<18446744073709551616):(kT n)[9]?=some (iN (jY n)):=by
 have:=Jw hn;have e:9=(cZ (cK n)++qa7 (9-jY n) (Value.int .u8 0)).length:=by simp [cI,rY];omega
 unfold kT ia;rw [qaF (by omega),←e];rfl
theorem Mb (hn:n<18446744073709551616):∃A',bg cg 278 [.int .u64 n] A (iN (jY n)) A':=by
 obtain⟨v,A',⟨g,hg⟩,rfl⟩:=JY (A:=A) hn;have h2:=OE hn;generalize kT n=l at h2 hg;have f1:tE cg 315 (.agg ⟨l⟩) 1= .ok (iN (jY n)):=by
  have e:tE cg 315 (.agg ⟨l⟩) 1=jr cg 3 l 9:=by kernel_rfl
  rw [e];exact sa DN rfl h2
 refine⟨A',?_⟩;refine aT (g) 60 (bH Tryz.func278) (by kernel_rfl) fun M hM=>?_
 simp (disch:=first|decide+kernel|omega) only [Tryz.f278,Aq,qal,hg,f1]<;>rfl
def oQ (s:List UInt8) (a:Nat):Nat→Nat
 |0=>0
 |i+1=>oQ s a i|||((s.getD (a+1+i) 0).toNat<<<(8*i))
theorem C3 (s:List UInt8) (a:Nat):∀i,oQ s a i<2^(8*i)
 |0=>by simp [oQ]
 |i+1=>by
  unfold oQ;refine Nat.or_lt_two_pow (qaD (C3 s a i) (qbz (by omega) (by omega))) ?_;rw [qex,show 8*(i+1)=8+8*i by omega,qes];exact Nat.mul_lt_mul_of_pos_right (s.getD (a+1+i) 0).toNat_lt (qcM _)
def tG (s:List UInt8) (a:Nat):Nat×Nat×Nat:=
 if s.length≤a then(0,a,3) else if(s.getD a 0).toNat<248 then((s.getD a 0).toNat,a+1,0)
 else if s.length-a≤(s.getD a 0).toNat-247 then(0,a,3)
 else if jY (oQ s a ((s.getD a 0).toNat-247))=1+((s.getD a 0).toNat-247) then(oQ s a ((s.getD a 0).toNat-247),a+1+((s.getD a 0).toNat-247),0) else(0,a,5)
def C0 (p:Nat×Nat×Nat):Value:=.tuple ⟨[.int .u64 p.1,.int .i64 p.2.1,.int .i64 p.2.2]⟩
noncomputable def iR:Code:=qbJ.body.getD .skip
noncomputable def GU:Code:=sub iR [1,1,1,1,1,1,0,1,0,0]
theorem Cx:qbJ.body=some (.seq (sub iR [0]) (.seq (sub iR [1,0]) (.seq (sub iR [1,1,0]) (.seq (sub iR [1,1,1,0]) (.seq (sub iR [1,1,1,1,0]) (.seq (sub iR [1,1,1,1,1,0]) (.seq (.seq (sub iR [1,1,1,1,1,1,0,0]) (.block 0 (.loop GU))) (.seq (sub iR [1,1,1,1,1,1,1,0]) (.seq (sub iR [1,1,1,1,1,1,1,1,0]) (sub iR [1,1,1,1,1,1,1,1,1])))))))))):=by kernel_rfl
theorem run_get {s:List UInt8} {a:Nat} (hs:s.length<1000000) (ha:a≤s.length):∃v A',bg cg 239 [aj s,.int .i64 a] A v A'∧v=C0 (tG s a):=by
 refine cF (bH Tryz.func239) Cx (by kernel_rfl) ?_;have hl:=cP (tb:=cg) (t:=9) (l:=s) ov;apply W.q
 ·intro M;simp (config:={maxSteps:=4000000}) (disch:=first|decide+kernel|omega|simp only [Wq,qal]) only [iR,qbJ,Aq,qaq,reduceIte,qal,qam];rfl
 apply W.seq;by_cases h1:s.length≤a
 ·apply W.run 20
  ·intro M;simp (config:={maxSteps:=4000000}) (disch:=first|decide+kernel|omega|simp only [Wq,qal]) only [iR,qbJ,Aq,qaq,reduceIte,qal,qam,hl,ef,cL,h1];rfl
  exact⟨by simp,rfl,_,(by simp only [qbJ,Aq,qaq,reduceIte,qal,qam]<;>rfl),by unfold tG;rw [if_pos h1];rfl⟩
 have hix:=dQ (t:=9) (kd:=.i64) ov (show a<s.length by omega);have hf:=(s.getD a 0).toNat_lt;generalize hfd:(s.getD a 0).toNat=f at hix hf;apply W.run 20
 ·intro M;simp (config:={maxSteps:=4000000}) (disch:=first|decide+kernel|omega|simp only [Wq,qal]) only [iR,qbJ,Aq,qaq,reduceIte,qal,qam,hl,ef,cL,h1];rfl
 apply W.q
 ·intro M;simp (disch:=first|decide+kernel|omega) only [iR,qbJ,Aq,qal,hix];rfl
 apply W.seq;by_cases h2:f<248
 ·have cv:=bM (tb:=cg) (s:=5) (d:=113) (k:=.u8) (n:=f) (by rw [mR];rfl) gZ (cV (by omega));have a1:aM .add .i64 ((a:Nat):Int) ((1:Nat):Int)= .ok (iN (a+1)):=bf (aV (by omega));apply W.run 20
  ·intro M;simp (disch:=first|decide+kernel|omega) only [iR,qbJ,Aq,qal,h2,cv,a1];rfl
  exact⟨by simp,rfl,_,(by simp only [qbJ,Aq,qal]<;>rfl),by unfold tG;rw [if_neg h1,hfd,if_pos h2];rfl⟩
 have cv:=bM (tb:=cg) (s:=5) (d:=3) (k:=.u8) (n:=f) (by rw [mR];rfl) DN (aV (by omega));have s1:aM .sub .i64 ((f:Nat):Int) ((248:Nat):Int)= .ok (iN (f-248)):=br (by omega) (aV (by omega));have a1:aM .add .i64 ((f-248:Nat):Int) ((1:Nat):Int)= .ok (iN (f-247)):=by rw [bf (aV (by omega)),show f-248+1=f-247 by omega]
 have s2:aM .sub .i64 ((s.length:Nat):Int) ((a:Nat):Int)= .ok (iN (s.length-a)):=br (by omega) (aV (by omega));apply W.run 20
 ·intro M;simp (disch:=first|decide+kernel|omega) only [iR,qbJ,Aq,qal,h2];rfl
 apply W.q
 ·intro M;simp (disch:=first|decide+kernel|omega) only [iR,qbJ,Aq,qal,cv,s1,a1];rfl
 generalize hm:f-247=m;have hm8:m≤8:=by omega
 apply W.seq;by_cases h3:s.length-a≤m
 ·apply W.run 20
  ·intro M;simp (disch:=first|decide+kernel|omega) only [iR,qbJ,Aq,qal,hl,s2,nt,cL,h3];rfl
  exact⟨by simp,rfl,_,(by simp only [qbJ,Aq,qal]<;>rfl),by unfold tG;rw [if_neg h1,hfd,if_neg h2,hm,if_pos h3];rfl⟩
 apply W.run 20
 ·intro M;simp (disch:=first|decide+kernel|omega) only [iR,qbJ,Aq,qal,hl,s2,nt,cL,h3];rfl
 apply W.seq;apply W.q
 ·intro M;simp (disch:=first|decide+kernel|omega) only [iR,qbJ,Aq,qal];rfl
 apply W.block;refine W.up m (fun i t D=>D=A∧Sl t [(0,aj s),(1,.int .i64 a),(4,uN (oQ s a i)),(8,.int .i64 m),(39,.int .i64 m),(40,.int .i64 i)]) ?_ (qaB _) ⟨rfl,?_⟩
 ·rintro i t D hi ⟨rfl,g0,g1,g4,g8,g39,g40,-⟩;have hlt2:=C3 s a i;have hp:2^(8*i)≤2^64:=qbz (by omega) (by omega);by_cases hlt:i<m
  ·have hx:=dQ (t:=9) (kd:=.i64) ov (show a+1+i<s.length by omega);have hc:=(s.getD (a+1+i) 0).toNat_lt;have hlt3:=C3 s a (i+1);have hp3:2^(8*(i+1))≤2^64:=qbz (by omega) (by omega);have e3:oQ s a (i+1)=oQ s a i|||((s.getD (a+1+i) 0).toNat<<<(8*i)):=rfl;have hsh:(s.getD (a+1+i) 0).toNat<<<(8*i)<18446744073709551616:=by
    refine qaD ?_ hp3;rw [qex,show 8*(i+1)=8+8*i by omega,qes];exact Nat.mul_lt_mul_of_pos_right hc (qcM _)
   generalize (s.getD (a+1+i) 0).toNat=c at hx hc hsh e3;have cv2:=bM (tb:=cg) (s:=5) (d:=113) (k:=.u8) (n:=c) (by rw [mR];rfl) gZ (cV (by omega));have m1:aM .mul .i64 ((8:Nat):Int) ((i:Nat):Int)= .ok (iN (8*i)):=j5 (aV (by omega));have a2:aM .add .i64 ((a:Nat):Int) ((1:Nat):Int)= .ok (iN (a+1)):=bf (aV (by omega));have a3:aM .add .i64 ((a+1:Nat):Int) ((i:Nat):Int)= .ok (iN (a+1+i)):=bf (aV (by omega));have sh:=fun d k'=>S6 (d:=d) (k':=k') (a:=c) (b:=8*i) (by omega) hsh
   have o1:=LA (a:=oQ s a i) (b:=c<<<(8*i)) (by omega) hsh;apply W.run 20
   ·intro M;simp (disch:=first|decide+kernel|omega) only [GU,iR,qbJ,Aq,qal,g0,g1,g4,g39,g40,hlt,hx,cv2,m1,a2,a3,sh,o1];rfl
   refine⟨hlt,_,_,rfl,rfl,?_⟩;simp only [Sq,qal,qam,g0,g1,g8,g39,e3]
  ·have hin:i=m:=by omega
   subst hin;obtain⟨A',g,hg⟩:=Mb (A:=D) (n:=oQ s a i) (by omega);have a2:aM .add .i64 ((1:Nat):Int) ((i:Nat):Int)= .ok (iN (1+i)):=bf (aV (by omega));have a3:aM .add .i64 ((a:Nat):Int) ((1:Nat):Int)= .ok (iN (a+1)):=bf (aV (by omega));have a4:aM .add .i64 ((a+1:Nat):Int) ((i:Nat):Int)= .ok (iN (a+1+i)):=bf (aV (by omega));apply W.run 20
   ·intro M;simp (disch:=first|decide+kernel|omega) only [GU,iR,qbJ,Aq,qal,g39,g40,hlt];rfl
   apply W.seq;by_cases h4:jY (oQ s a i)=1+i
   ·apply W.cN (g) 20
    ·intro M hM;simp (disch:=first|decide+kernel|omega) only [iR,qbJ,Aq,qal,g4,g8,hg,a2,h4];rfl
    apply W.run 20
    ·intro M;simp (disch:=first|decide+kernel|omega) only [iR,qbJ,Aq,qal,g1,g4,g8,a3,a4];rfl
    exact⟨by simp,rfl,_,(by simp only [qbJ,Aq,qal]<;>rfl),by unfold tG;rw [if_neg h1,hfd,if_neg h2,hm,if_neg h3,if_pos h4];rfl⟩
   ·apply W.cN (g) 20
    ·intro M hM;simp (disch:=first|decide+kernel|omega) only [iR,qbJ,Aq,qal,g1,g4,g8,hg,a2,h4];rfl
    exact⟨by simp,rfl,_,(by simp only [qbJ,Aq,qal]<;>rfl),by unfold tG;rw [if_neg h1,hfd,if_neg h2,hm,if_neg h3,if_neg h4];rfl⟩
 ·simp only [Sq,qal,qam,oQ]
theorem zo:cg.ba 74=some (.slice 5):=by kernel_rfl
theorem Y5:cm cg 5= .ok (1,[.int .u8 0]):=by kernel_rfl
theorem Y3:∃i,cg.ty.get 5=some i∧0<i.bytes∧i.bytes≤65536:=by
 have h:(cg.ty.get 5).map (fun i=>qax 0 i.bytes&&qaq i.bytes 65536)=some true:=by kernel_rfl
 cases hq:cg.ty.get 5 with
 |none=>rw [hq] at h;cases h
 |some i=>
  rw [hq] at h;simp only [qa5,qaX,qaO,qaH] at h;exact⟨i,rfl,h.1,qaG h.2⟩
theorem sQ {l:List UInt8} {x:Value} (h:oe A 5 b (cZ l) x):df cg A.get 74 9 x= .ok (aj l):=by
 rcases h with⟨rfl,hl⟩|⟨k,c,rfl,h4,h5,h6⟩
 ·have:l=[]:=by cases l with
   |nil=>rfl
   |cons _ _=>simp [cZ] at hl
  subst this;unfold df;simp only [zo,ov,mR];rfl
 ·have hb:YX A b 5 k l:=by
   obtain⟨cs,e1,e2⟩:=h5;exact⟨cs,e1,fun i hi=>e2 i (by rw [cI];exact hi)⟩
  rw [cI];exact zh zo ov mR hb
variable {dst:Option Tmp}
theorem Zx {ih:Code→St→R (Ex×St)} {ty:TypeId} {pos:String} {after:Array Edge} {g:Option (Nat×Bool)} {s:St} {k:St→R (Ex×St)} (x:Operand):dL cg ih {dst,op:=.convert 74 9 x,type:=ty,pos,after,guard:=g} s k=(ev s.t x).bind fun x=>(df cg s.m.get 74 9 x).bind fun v=>bR s dst v k:=by
 rw [nq (hc:=by kernel_rfl) (hi:=rfl)];simp only [nX,R.a7]
theorem Uq {c:Int}:a6 cg 74 1 [(0,.int .u8 c)]= .ok (aa 5 [.int .u8 c],.mO 1 2):=by kernel_rfl
theorem MW {D:Mem} {l:List UInt8} {x:Value} (h:oe D 5 b (cZ l) x) (hb:l≠ []→b<D.next) (hl:l.length<16000000) (hc:c<256):
 ∃x' D',bj cg (D.alloc (aa 5 [.int .u8 c])) 74 74 x (.slice (some ⟨D.next,0,none⟩) 1 2)= .ok (x',D')∧oe D' 5 (D.next+1) (cZ (l++[.ofNat c])) x'∧D'.next=D.next+2∧∀y,y≠b→y<D.next→D'.get y=D.get y:=by
 obtain⟨i,h1,h2,h3⟩:=Y3;have hs:oe (D.alloc (aa 5 [.int .u8 c])) 5 b (cZ l) x:=h.same (by rw [ae];omega) fun hh=>aB (by omega)
 obtain⟨x',D',e1,e2,e3,e4⟩:=hs.append (tb:=cg) (st:=74) (xt:=74) zo zo Y5 h1 h2 h3 (by rw [cI];omega) (ax D _) rfl;rw [ae] at e2 e3 e4;refine⟨x',D',e1,?_,by omega,fun y hy hyn=>by rw [e4 y hy (by omega),aB (by omega)]⟩;rw [show cZ (l++[qbD c])=cZ l++[.int .u8 c] by unfold cZ;rw [qbe,List.map_singleton,Cm hc]];exact e2
theorem DB {D:Mem} (hc:c<256):oe (D.alloc (aa 5 [.int .u8 c])) 5 D.next (cZ [.ofNat c]) (.slice (some ⟨D.next,0,none⟩) 1 2):=by
 have e:cZ [qbD c]=[.int .u8 c]:=by unfold cZ;rw [List.map_singleton,Cm hc]
 rw [e];exact .inr ⟨.var 1,2,rfl,by rw [ae];omega,g_ D 5 [.int .u8 c],.inl rfl⟩
theorem HN (h:n<256) (h0:n≠0):bX n=1:=by
 have h1:=Cf h;unfold bX gD;rw [if_neg h0];have:=(qer h0 (k:=8)).2 h;omega
theorem Ln (h:256≤n):bX n=1+bX (n/256):=by
 unfold bX;rw [wM (n:=n) (a:=8) h,qbn,show 2^8=256 from rfl];omega
noncomputable def wU:Code:=qd0.body.getD .skip
noncomputable def GS:Code:=sub wU [1,1,0,0,0]
theorem Q6:qd0.body=some (.seq (sub wU [0]) (.seq (sub wU [1,0]) (.seq (.block 0 (.loop GS)) (.seq (sub wU [1,1,1,0]) (sub wU [1,1,1,1]))))):=by kernel_rfl
theorem nu {a:Nat} (h:a<18446744073709551616) (hb:0<b):aM .quo .u64 (a:Int) (b:Int)= .ok (uN (a/b)):=by
 obtain⟨c,rfl⟩:∃c,b=c+1:=⟨b-1,by omega⟩;show R.ok (Value.int .u64 (dm .u64 ((a/(c+1):Nat):Int)))=_;rw [mS (cV (qbj (Nat.div_le_self _ _) h))]
theorem H6 (hn:n<18446744073709551616) (h0:n≠0):bg cg 248 [.int .u64 n] A (iN (bX n)) A:=by
 refine wI (bH Tryz.func248) Q6 (by kernel_rfl) ?_;have hle:=pP hn;apply W.q
 ·intro M;simp (disch:=first|decide+kernel|omega) only [wU,qd0,Aq,qal];rfl
 apply W.q
 ·intro M;simp (disch:=first|decide+kernel|omega) only [wU,qd0,Aq,qal];rfl
 apply W.seq;apply W.block;refine W.up 7 (fun i t D=>D=A∧∃x,x≠0∧x<18446744073709551616∧i+bX x=bX n∧Sl t [(0,.int .u64 x),(3,iN (i+1))]) ?_ (qaB _) ⟨rfl,n,h0,hn,by omega,?_⟩
 ·rintro i t D hi ⟨rfl,x,hx0,hx,hi2,g0,g3,-⟩;by_cases hlt:256≤x
  ·have hst:=Ln hlt;have h1:bX (x/256)≠0:=by
    intro h;have h2:x/256=0:=by
     unfold bX gD at h;split at h
     ·assumption
     ·omega
    omega
   have q:=nu (b:=256) hx (by omega);have a1:aM .add .i64 ((i+1:Nat):Int) ((1:Nat):Int)= .ok (iN (i+1+1)):=bf (aV (by omega));apply W.run 20
   ·intro M;simp (disch:=first|decide+kernel|omega) only [GS,wU,qd0,Aq,qal,g0,g3,ef,cL,hlt,q,a1];rfl
   refine⟨by omega,_,_,rfl,rfl,x/256,by omega,by omega,by omega,?_⟩;simp only [Sq,qal,qam]
  ·have h1:=HN (by omega) hx0;have e:i+1=bX n:=by omega
   rw [e] at g3;apply W.run 20
   ·intro M;simp (disch:=first|decide+kernel|omega) only [GS,wU,qd0,Aq,qal,g0,ef,cL,hlt];rfl
   apply W.q
   ·intro M;simp (disch:=first|decide+kernel|omega) only [wU,qd0,Aq,qal,g3];rfl
   apply W.run 20
   ·intro M;simp (disch:=first|decide+kernel|omega) only [wU,qd0,Aq,qal];rfl
   exact⟨by simp,rfl,rfl,by simp only [qd0,Aq,qal]<;>rfl⟩
 ·simp only [Sq,qal,qam]
noncomputable def og:Code:=qcC.body.getD .skip
noncomputable def GH:Code:=sub og [1,1,1,1,0,1,0,0]
theorem Cp:qcC.body=some (.seq (sub og [0]) (.seq (sub og [1,0]) (.seq (sub og [1,1,0]) (.seq (sub og [1,1,1,0]) (.seq (.seq (sub og [1,1,1,1,0,0]) (.block 0 (.loop GH))) (.seq (sub og [1,1,1,1,1,0]) (sub og [1,1,1,1,1,1]))))))):=by kernel_rfl
theorem PD (hn:n<18446744073709551616):∃v A',bg cg 209 [.int .u64 n] A v A'∧v=aj (cK n):=by
 refine cF (bH Tryz.func209) Cp (by kernel_rfl) ?_;have hle:=pP hn;apply W.q
 ·intro M;simp (disch:=first|decide+kernel|omega) only [og,qcC,Aq,qal];rfl
 apply W.seq;by_cases h:n<248
 ·have c1:=bM (tb:=cg) (s:=113) (d:=5) (k:=.u64) (n:=n) (by rw [gZ];rfl) mR (jm (by omega));have c2:=sQ (DB (D:=A) (show n<256 by omega));apply W.run 20
  ·intro M;simp (disch:=first|decide+kernel|omega) only [og,qcC,Aq,qal,h,c1,Uq,c2,Zx];rfl
  exact⟨by simp,rfl,_,(by simp only [qcC,Aq,qal]<;>rfl),by unfold cK;rw [if_pos h]⟩
 obtain⟨g,hg⟩:=H6 (A:=A) hn (by omega);have c1:=bM (tb:=cg) (s:=3) (d:=5) (k:=.i64) (n:=247+bX n) (by rw [DN];rfl) mR (jm (by omega));have a1:aM .add .i64 ((247:Nat):Int) ((bX n:Nat):Int)= .ok (iN (247+bX n)):=bf (aV (by omega));apply W.run 20
 ·intro M;simp (disch:=first|decide+kernel|omega) only [og,qcC,Aq,qal,h];rfl
 apply W.qG (g)
 ·intro M hM;simp (disch:=first|decide+kernel|omega) only [og,qcC,Aq,qal,hg];rfl
 apply W.q
 ·intro M;simp (disch:=first|decide+kernel|omega) only [og,qcC,Aq,qal,a1,c1,Uq];rfl
 have s1:=DB (D:=A) (show 247+bX n<256 by omega);apply W.seq;apply W.q
 ·intro M;simp (disch:=first|decide+kernel|omega) only [og,qcC,Aq,qal];rfl
 apply W.block;refine W.up (bX n) (fun i t D=>∃b x,oe D 5 b (cZ (.ofNat (247+bX n)::rV n i)) x∧b<D.next∧Sl t [(0,uN (n>>>(8*i))),(3,iN (bX n)),(4,x),(5,.int .i64 i)]) ?_ (qaB _) ⟨_,_,s1,by rw [ae];omega,?_⟩
 ·rintro i t D hi ⟨b,x,hs,hb,g0,g3,g4,g5,-⟩;by_cases hlt:i<bX n
  ·have hsh:n>>>(8*i)<18446744073709551616:=qbj (Nat.shiftRight_le _ _) hn;have c2:=bM (tb:=cg) (s:=113) (d:=5) (k:=.u64) (n:=n>>>(8*i) % 256) (by rw [gZ];rfl) mR (jm (by omega));have q:=nu (b:=256) hsh (by omega);have e2:n>>>(8*i)/256=n>>>(8*(i+1)):=by rw [show 8*(i+1)=8*i+8 by omega,Nat.shiftRight_add];exact(qbn _ 8).symm
   obtain⟨x',D',ha,hs',hn',-⟩:=MW hs (fun _=>hb) (by rw [qaA,i_];omega) (show n>>>(8*i) % 256<256 by omega);apply W.run 20
   ·intro M;simp (disch:=first|decide+kernel|omega) only [GH,og,qcC,Aq,qal,g0,g3,g4,g5,hlt,c2,Uq,ha,q,e2];rfl
   refine⟨hlt,_,_,rfl,_,x',hs',by omega,?_⟩;simp only [Sq,qal,qam,g3]
  ·have e:i=bX n:=by omega
   subst e;have c2:=sQ hs;apply W.run 20
   ·intro M;simp (disch:=first|decide+kernel|omega) only [GH,og,qcC,Aq,qal,g3,g5,hlt];rfl
   apply W.q
   ·intro M;simp (disch:=first|decide+kernel|omega) only [og,qcC,Aq,qal,g4,c2,Zx];rfl
   apply W.run 20
   ·intro M;simp (disch:=first|decide+kernel|omega) only [og,qcC,Aq,qal];rfl
   exact⟨by simp,rfl,_,(by simp only [qcC,Aq,qal]<;>rfl),by unfold cK;rw [if_neg h]⟩
 ·simp only [Sq,qal,qam];simp
end Go.Proofs.YtjoceidiioppiaaGreatDoor.sto
namespace Go.Am
theorem iP:∀x,aX x x=false
 | []=>rfl
 |a::x=>by
  have:qax a.toNat a.toNat=false:=by
   cases h:qax a.toNat a.toNat with
   |false=>rfl
   |true=>rw [qaH] at h;omega
  simp [aX,this,iP x]
theorem lX:∀x y z,aX x y=true→aX y z=true→aX x z=true
 |_,[],_,h,_=>by simp [aX] at h
 |_,_::_,[],_,h=>by simp [aX] at h
 | [],b::y,c::z,_,_=>rfl
 |a::x,b::y,c::z,h1,h2=>by
  simp only [aX,qeC,qaO,qaH,qcI] at h1 h2⊢;rcases h1 with h1|⟨h1,h1'⟩
  ·rcases h2 with h2|⟨h2,_⟩
   ·left;omega
   ·left;omega
  ·rcases h2 with h2|⟨h2,h2'⟩
   ·left;omega
   ·exact .inr ⟨by omega,lX x y z h1' h2'⟩
theorem oE:∀x y,aX x y=false→aX y x=false→x=y
 | [],[],_,_=>rfl
 | [],_::_,h,_=>by simp [aX] at h
 |_::_,[],_,h=>by simp [aX] at h
 |a::x,b::y,h1,h2=>by
  simp only [aX,qcH,Bool.and_eq_false_iff] at h1 h2;have e:a.toNat=b.toNat:=by
   rcases qcT a.toNat b.toNat with h|h|h
   ·have:=h1.1;rw [show qax a.toNat b.toNat=true by rw [qaH];exact h] at this;cases this
   ·exact h
   ·have:=h2.1;rw [show qax b.toNat a.toNat=true by rw [qaH];exact h] at this;cases this
  have e1:aX x y=false:=by
   rcases h1.2 with h|h
   ·rw [e] at h;simp at h
   ·exact h
  have e2:aX y x=false:=by
   rcases h2.2 with h|h
   ·rw [e] at h;simp at h
   ·exact h
  rw [oE x y e1 e2,qdf.1 e]
end Go.Am
namespace Go.Mdl
open Go.Am
structure aP where
 word:List UInt8
 weight:Nat
 gone:Bool
deriving DecidableEq
abbrev lt (a b:List UInt8):Prop:=aX a b=true
theorem Vk (a:List UInt8):¬lt a a:=by unfold lt;rw [iP];simp
theorem OK {a b c:List UInt8} (h:lt a b) (k:lt b c):lt a c:=lX _ _ _ h k
theorem OL {a b:List UInt8} (h:¬lt a b) (k:¬lt b a):a=b:=oE _ _ (by simpa [lt] using h) (by simpa [lt] using k)
def rk:List aP→Prop
 | []=>True
 |x::l=>(∀y∈l,lt x.word y.word)∧rk l
def mH (e:aP):List aP→List aP
 | []=>[e]
 |x::l=>if lt x.word e.word then x::mH e l else if x.word=e.word then e::l else e::x::l
variable {e:aP}
theorem Dh:∀{l:List aP} {y:aP},y∈mH e l→y=e∨y∈l
 | [],y,h=>by simp [mH] at h;exact .inl h
 |x::l,y,h=>by
  unfold mH at h;split at h
  ·rcases qaK.1 h with rfl|h
   ·exact .inr qaz
   ·rcases Dh h with h|h
    ·exact .inl h
    ·exact .inr (qay _ h)
  ·split at h
   ·rcases qaK.1 h with h|h
    ·exact .inl h
    ·exact .inr (qay _ h)
   ·rcases qaK.1 h with h|h
    ·exact .inl h
    ·exact .inr h
theorem JH:∀{l:List aP},rk l→rk (mH e l)
 | [],_=>⟨fun y hy=>(by cases hy),trivial⟩
 |x::l,h=>by
  unfold mH;split
  ·rename_i hx;refine⟨fun y hy=>?_,JH h.2⟩;rcases Dh hy with rfl|hy
   ·exact hx
   ·exact h.1 y hy
  ·split
   ·rename_i hx he;exact⟨fun y hy=>by rw [←he];exact h.1 y hy,h.2⟩
   ·rename_i hx he;have hex:lt e.word x.word:=qca fun hn=>he (OL hx hn)
    refine⟨fun y hy=>?_,h⟩;rcases qaK.1 hy with rfl|hy
    ·exact hex
    ·exact OK hex (h.1 y hy)
def live (l:List aP):List aP:=l.filter fun e=>!e.gone
def find (w:List UInt8) (l:List aP):Option aP:=l.find? fun e=>decide (e.word=w)
end Go.Mdl
namespace Go.Sto
open Go.Am Go.Mdl
structure cJ where
 byte:UInt8
 out:Nat
 to:Nat
deriving DecidableEq
structure aZ where
 fin:Bool
 out:Nat
 arcs:List cJ
deriving DecidableEq
def val (e:aP):Nat:=if e.gone then 0 else e.weight+1
def least:List aP→Nat
 | []=>0
 |x::l=>l.foldl (fun n e=>min n (val e)) (val x)
def gX (M:List aZ) (s:aZ):List aZ×Nat:=
 match M.findIdx? (fun x=>decide (x=s)) with
 |some i=>(M,i)
 |none=>(M++[s],M.length)
def aG (d:Nat) (e:aP):Option UInt8:=e.word[d]?
def cq (rec:List aP→Nat→List aZ→List aZ×Nat) (d less:Nat):List aP→List cJ→List aZ→List aZ×List cJ
 | [],qak,M=>(M,qak)
 |e::r,qak,M=>
  if aG d e=none∨(qak.getLast?).map (·.byte)=aG d e then cq rec d less r qak M
  else
   cq rec d less r (qak++[⟨(aG d e).getD 0,least ((e::r).filter fun x=>decide (aG d x=aG d e))-less,(rec ((e::r).filter fun x=>decide (aG d x=aG d e)) (least ((e::r).filter fun x=>decide (aG d x=aG d e))) M).2⟩])
    (rec ((e::r).filter fun x=>decide (aG d x=aG d e)) (least ((e::r).filter fun x=>decide (aG d x=aG d e))) M).1
def iq (d less:Nat) (l:List aP):Bool×Nat:=l.foldl (fun s e=>if aG d e=none then(true,val e-less) else s) (false,0)
def pX:Nat→List aP→Nat→Nat→List aZ→List aZ×Nat
 |0,_,_,_,M=>(M,0)
 |f+1,l,d,less,M=>
  gX (cq (fun own n M=>pX f own (d+1) n M) d less l [] M).1 ⟨(iq d less l).1,(iq d less l).2,(cq (fun own n M=>pX f own (d+1) n M) d less l [] M).2⟩
def nQ (M:List aZ):Nat→Nat→List (List UInt8×Nat)
 |0,_=>[]
 |k+1,i=>match M[i]? with
  |none=>[]
  |some s=>(if s.fin then [([],s.out)] else [])++s.arcs.flatMap fun a=>(nQ M k a.to).map fun w=>(a.byte::w.1,a.out+w.2)
def WN (i:Nat) (s:aZ):Prop:=(s.fin=false→s.out=0)∧(s.arcs.map (·.byte)).Pairwise (·<·)∧(∀a∈s.arcs,a.to<i)∧(s.fin=true∨s.arcs≠ [])∧((s.fin=true∧s.out=0)∨∃a∈s.arcs,a.out=0)
def dg (M:List aZ):Prop:=∀i s,M[i]?=some s→WN i s
theorem jU {α β:Type} {f g:α→List β}:∀{l:List α},(∀a∈l,f a=g a)→l.flatMap f=l.flatMap g
 | [],_=>rfl
 |x::l,h=>by rw [qbl,qbl,h x qaz,jU fun a ha=>h a (qay _ ha)]
variable {M:List aZ} {i:Nat}
theorem JP {M':List aZ} (h:M<+:M') (hi:i<M.length):M'[i]?=M[i]?:=by
 obtain⟨t,rfl⟩:=h;rw [qaJ hi]
theorem BT {M':List aZ} (g:dg M) (h:M<+:M'):∀k i,i<M.length→nQ M' k i=nQ M k i
 |0,_,_=>rfl
 |k+1,i,hi=>by
  unfold nQ;rw [JP h hi];have hs:M[i]?=some M[i]:=qan hi;rw [hs];simp only
  congr 1;refine jU fun a ha=>?_
  rw [BT g h k a.to (Nat.lt_trans ((g i _ hs).2.2.1 a ha) hi)]
theorem IC (g:dg M):∀i k,i<k→nQ M k i=nQ M (i+1) i:=by
 intro i
 induction i using qcL with
 |ind i ih=>
  intro k hk;obtain⟨k',rfl⟩:∃k',k=k'+1:=⟨k-1,by omega⟩;unfold nQ;cases hs:M[i]? with
  |none=>rfl
  |some s=>
   simp only
   congr 1;refine jU fun a ha=>?_
   have ht:=(g i s hs).2.2.1 a ha;rw [ih a.to ht k' (by omega),ih a.to ht i ht]
def ws (M:List aZ) (i:Nat):List (List UInt8×Nat):=nQ M (i+1) i
def jh (M:List aZ) (a:cJ):List (List UInt8×Nat):=(ws M a.to).map fun w=>(a.byte::w.1,a.out+w.2)
theorem n_ (g:dg M) {s:aZ} (h:M[i]?=some s):ws M i=(if s.fin then [([],s.out)] else [])++s.arcs.flatMap (jh M):=by
 unfold ws;rw [nQ,h];simp only
 congr 1;refine jU fun a ha=>?_
 unfold jh ws;rw [IC g a.to i ((g i s h).2.2.1 a ha)]
theorem ID {M':List aZ} (g:dg M) (h:M<+:M') (hi:i<M.length):ws M' i=ws M i:=BT g h _ _ hi
def Good (M:List aZ):Prop:=dg M∧M.Nodup∧∀i,i<M.length→∀w∈ws M i,w.2≤4294967296
def gk (M:List aZ):Nat→Nat→Nat→Option Nat
 |0,_,_=>none
 |k+1,i,left=>match M[i]? with
  |none=>none
  |some s=>(s.arcs.foldl (fun o a=>o.bind fun L=>if L≤a.to then gk M k a.to L else some L) (some left)).bind fun L=>if i=L then some (L+1) else none
def jd (M:List aZ) (k:Nat) (o:Option Nat) (a:cJ):Option Nat:=o.bind fun L=>if L≤a.to then gk M k a.to L else some L
theorem fold_congr {α β:Type} {f g:β→α→β}:∀{l:List α} {b:β},(∀a∈l,∀b,f b a=g b a)→l.foldl f b=l.foldl g b
 | [],_,_=>rfl
 |x::l,b,h=>by rw [qbu,qbu,h x qaz,fold_congr fun a ha=>h a (qay _ ha)]
variable {k:Nat}
theorem s_ {left:Nat} {s:aZ} (h:M[i]?=some s):gk M (k+1) i left=(s.arcs.foldl (jd M k) (some left)).bind fun L=>if i=L then some (L+1) else none:=by
 rw [gk,h];rfl
theorem ua {M':List aZ} (g:dg M) (h:M<+:M'):∀k i left,i<M.length→gk M' k i left=gk M k i left
 |0,_,_,_=>rfl
 |k+1,i,left,hi=>by
  have hs:M[i]?=some M[i]:=qan hi;rw [s_ hs,s_ ((JP h hi).trans hs)];congr 1;refine fold_congr fun a ha o=>?_
  unfold jd;congr 1;funext L;rw [ua g h k a.to L (Nat.lt_trans ((g i _ hs).2.2.1 a ha) hi)]
theorem ya {s:aZ} (h:M.findIdx? (fun x=>decide (x=s))=some i):gX M s=(M,i):=by unfold gX;rw [h]
theorem Fi {s:aZ} (h:M.findIdx? (fun x=>decide (x=s))=none):gX M s=(M++[s],M.length):=by unfold gX;rw [h]
theorem EV {s:aZ} (h:M.findIdx? (fun x=>decide (x=s))=some i):M[i]?=some s:=by
 obtain⟨hi,hp,-⟩:=qco.1 h;rw [qan hi];simpa using hp
theorem EU {s:aZ} (h:M.findIdx? (fun x=>decide (x=s))=none):s∉M:=by
 intro hs;have:=qed.1 h s hs;simp at this
theorem xI {s:aZ} (g:dg M) (hs:WN M.length s):dg (M++[s]):=by
 intro i x h;rcases qaZ i M.length with hi|hi
 ·rw [qaJ hi] at h;exact g i x h
 ·rw [qaF hi] at h;cases hq:i-M.length with
  |zero=>
   rw [hq] at h;cases h;rwa [show i=M.length by omega]
  |succ n=>
   rw [hq] at h;simp at h
theorem Ko {s:aZ} (g:dg M) (hs:WN M.length s):ws (M++[s]) M.length=(if s.fin then [([],s.out)] else [])++s.arcs.flatMap (jh M):=by
 rw [n_ (xI g hs) (show(M++[s])[M.length]?=some s by rw [qaF (qao _),qbq];rfl)];congr 1;refine jU fun a ha=>?_
 unfold jh;rw [ID g (List.prefix_append _ _) (hs.2.2.1 a ha)]
theorem K9 {s:aZ} (g:Good M) (hs:WN M.length s) (hn:s∉M) (hv:∀w∈(if s.fin then [([],s.out)] else [])++s.arcs.flatMap (jh M),w.2≤4294967296):Good (M++[s]):=by
 refine⟨xI g.1 hs,?_,fun i hi w hw=>?_⟩
 ·rw [qdR];refine⟨g.2.1,by simp,fun a ha b hb=>?_⟩;rw [qaY] at hb;rintro rfl;subst hb;exact hn ha
 ·rw [qar,qaS] at hi;rcases qaZ i M.length with h|h
  ·rw [ID g.1 (List.prefix_append _ _) h] at hw;exact g.2.2 i h w hw
  ·obtain rfl:i=M.length:=by omega
   rw [Ko g.1 hs] at hw;exact hv w hw
theorem oP:∀(l:List aP) (n:Nat),l.foldl (fun n e=>min n (val e)) n≤n∧∀e∈l,l.foldl (fun n e=>min n (val e)) n≤val e
 | [],n=>⟨qao _,fun _ h=>(by cases h)⟩
 |x::l,n=>by
  obtain⟨h1,h2⟩:=oP l (min n (val x));refine⟨qaV h1 (qef _ _),fun e he=>?_⟩;rcases qaK.1 he with rfl|he
  ·exact qaV h1 (qdu _ _)
  ·exact h2 e he
variable {e:aP}
theorem least_le {l:List aP} (h:e∈l):least l≤val e:=by
 cases l with
 |nil=>cases h
 |cons x l=>
  rcases qaK.1 h with rfl|h
  ·exact(oP l _).1
  ·exact(oP l _).2 e h
theorem uz:∀(l:List aP) (n:Nat),l.foldl (fun n e=>min n (val e)) n=n∨∃e∈l,l.foldl (fun n e=>min n (val e)) n=val e
 | [],n=>.inl rfl
 |x::l,n=>by
  rw [qbu];rcases uz l (min n (val x)) with h|⟨e,he,h⟩
  ·rcases qeG n (val x) with hl|hl
   ·exact .inl (by rw [h,qbr hl])
   ·exact .inr ⟨x,qaz,by rw [h,qc6 hl]⟩
  ·exact .inr ⟨e,qay _ he,h⟩
theorem oT {l:List aP} (h:l≠ []):∃e∈l,least l=val e:=by
 cases l with
 |nil=>exact absurd rfl h
 |cons x l=>
  rcases uz l (val x) with h|⟨e,he,h⟩
  ·exact⟨x,qaz,h⟩
  ·exact⟨e,qay _ he,h⟩
def Kt (d:Nat) (p:List UInt8) (l:List aP):Prop:=∀e∈l,e.word.take d=p∧d≤e.word.length
variable {d:Nat}
theorem Ai {p:List UInt8} (h:e.word.take d=p):e.word=p++e.word.drop d:=by rw [←h,qcx]
theorem Ak:aG d e=none↔e.word.length≤d:=List.getElem?_eq_none_iff
theorem tv {b:UInt8} (h:aG d e=some b):e.word.drop d=b::e.word.drop (d+1):=by
 obtain⟨hd,rfl⟩:=qap.1 h;rw [qbi hd]
theorem AB (h:aG d e=none):e.word.drop d=[]:=qd3.2 (Ak.1 h)
theorem Vj {p a b:List UInt8}:lt (p++a) (p++b)↔lt a b:=by
 induction p with
 |nil=>rfl
 |cons x p ih=>
  unfold lt at ih⊢;rw [qbf,qbf,←ih];simp [aX]
theorem R6 {x y:UInt8} {a b:List UInt8} (h:lt (x::a) (y::b)):x≤y:=by
 unfold lt at h;simp only [aX] at h;rcases qaZ x.toNat y.toNat with hx|hx
 ·exact qeF hx
 ·rcases qaZ y.toNat x.toNat with hy|hy
  ·simp_all;omega
  ·exact UInt8.le_iff_toNat_le.2 hy
theorem Vl {a:List UInt8}:¬lt a []:=by
 unfold lt;cases a<;>simp [aX]
theorem oB {p:List UInt8} {x y:aP} (hx:x.word.take d=p) (hy:y.word.take d=p) (h:lt x.word y.word):∃c,aG d y=some c∧∀b,aG d x=some b→b≤c:=by
 rw [Ai hx,Ai hy,Vj] at h;cases hq:aG d y with
 |none=>rw [AB hq] at h;exact absurd h Vl
 |some c=>
  refine⟨c,rfl,fun b hb=>?_⟩;rw [tv hb,tv hq] at h;exact R6 h
theorem jI {p:aP→Bool}:∀{l:List aP},rk l→rk (l.filter p)
 | [],_=>trivial
 |x::l,h=>by
  rw [qbp];split
  ·exact⟨fun y hy=>h.1 y (qbV.1 hy).1,jI h.2⟩
  ·exact jI h.2
def D (d less:Nat) (e:aP):List UInt8×Nat:=(e.word.drop d,val e-less)
theorem oX {p:List UInt8} {b:UInt8}:∀{r:List aP},rk r→Kt d p r→(∀y∈r,∃c,aG d y=some c∧b≤c)→r=r.filter (fun x=>decide (aG d x=some b))++r.filter (fun x=>decide (aG d x≠some b))
 | [],_,_,_=>rfl
 |x::r,ha,hb,h=>by
  obtain⟨c,hc,hbc⟩:=h x qaz;rw [qbp,qbp];by_cases hcb:c=b
  ·subst hcb;rw [if_pos (by simp [hc]),if_neg (by simp [hc]),qbf];congr 1;exact oX ha.2 (fun e he=>hb e (qay _ he)) fun y hy=>h y (qay _ hy)
  ·rw [if_neg (by simp [hc,hcb]),if_pos (by simp [hc,hcb])];have hall:∀y∈r,aG d y≠some b:=by
    intro y hy hyb;obtain⟨c',h1,h2⟩:=oB (hb x qaz).1 (hb y (qay _ hy)).1 (ha.1 y hy);have:=h2 c hc;rw [hyb] at h1;cases h1;exact hcb (UInt8.le_antisymm this hbc)
   rw [List.filter_eq_nil_iff.2 (fun y hy=>by simpa using hall y hy),qdz.2 (fun y hy=>by simpa using hall y hy)];rfl
def Gp (M:List aZ) (q:List aZ×Nat) (l:List aP) (d less:Nat):Prop:=
 Good q.1∧M<+:q.1∧q.2<q.1.length∧((q.1=M∧q.2<M.length)∨(M.length≤q.2∧q.1.length=q.2+1))∧ws q.1 q.2=l.map (D d less)∧(M.length≤q.2→∀k,q.2<k→gk q.1 k q.2 M.length=some q.1.length)
def Tx (rec:List aP→Nat→List aZ→List aZ×Nat) (d n:Nat) (p:List UInt8):Prop:=
 ∀own M b,Good M→own≠ []→rk own→Kt (d+1) (p++[b]) own→(∀e∈own,e.word.length<n∧val e≤4294967296)→Gp M (rec own (least own) M) own (d+1) (least own)
variable {n:Nat}
theorem Ce {rec:List aP→Nat→List aZ→List aZ×Nat} {less:Nat} {p:List UInt8} (hrec:Tx rec d n p):
 ∀(r:List aP) (qak:List cJ) (M:List aZ),Good M→rk r→Kt d p r→(∀e∈r,e.word.length<n∧val e≤4294967296)→(∀e∈r,less≤val e)→
  (∀y∈r,∀b,(qak.getLast?).map (·.byte)=some b→∃c,aG d y=some c∧b≤c)→
  ∃new,(cq rec d less r qak M).2=qak++new∧Good (cq rec d less r qak M).1∧M<+:(cq rec d less r qak M).1∧(new.map (·.byte)).Pairwise (·<·)∧
   (∀a∈new,∀b,(qak.getLast?).map (·.byte)=some b→b<a.byte)∧(∀a∈new,a.to<(cq rec d less r qak M).1.length)∧
   ((cq rec d less r qak M).1=M∨∃a∈new,a.to+1=(cq rec d less r qak M).1.length)∧
   new.flatMap (jh (cq rec d less r qak M).1)=(r.filter fun x=>decide (aG d x≠none∧aG d x≠(qak.getLast?).map (·.byte))).map (D d less)∧
   ∀k,(cq rec d less r qak M).1.length≤k→new.foldl (jd (cq rec d less r qak M).1 k) (some M.length)=some (cq rec d less r qak M).1.length
 | [],qak,M,g,_,_,_,_,_=>by
  unfold cq;exact⟨[],by simp,g,List.prefix_refl _,by simp,fun a ha=>(by cases ha),fun a ha=>(by cases ha),.inl rfl,by simp,fun k _=>rfl⟩
 |e::r,qak,M,g,ha,hb,hl,hv,hy=>by
  have hb':Kt d p r:=fun x hx=>hb x (qay _ hx)
  have hl':∀x∈r,x.word.length<n∧val x≤4294967296:=fun x hx=>hl x (qay _ hx)
  have hv':∀x∈r,less≤val x:=fun x hx=>hv x (qay _ hx)
  unfold cq;by_cases hskip:aG d e=none∨(qak.getLast?).map (·.byte)=aG d e
  ·rw [if_pos hskip];obtain⟨new,h1,h2,h3,h4,h5,h6,h7,h8,h9⟩:=Ce hrec r qak M g ha.2 hb' hl' hv' fun y hr b=>hy y (qay _ hr) b
   refine⟨new,h1,h2,h3,h4,h5,h6,h7,?_,h9⟩;rw [h8,qbp,if_neg];rcases hskip with h|h
   ·simp [h]
   ·simp [h]
  ·rw [if_neg hskip];simp only [not_or] at hskip;obtain⟨hn,hla⟩:=hskip;obtain⟨b,hbe⟩:∃b,aG d e=some b:=qd8.1 hn;have hge:∀y∈e::r,∃c,aG d y=some c∧b≤c:=by
    intro y hyr;rcases qaK.1 hyr with rfl|hyr
    ·exact⟨b,hbe,UInt8.le_refl _⟩
    ·obtain⟨c,h1,h2⟩:=oB (hb e qaz).1 (hb' y hyr).1 (ha.1 y hyr);exact⟨c,h1,h2 b hbe⟩
   have hown:∀x∈(e::r).filter (fun x=>decide (aG d x=aG d e)),x∈e::r∧aG d x=some b:=by
    intro x hx;obtain⟨h1,h2⟩:=qbV.1 hx;exact⟨h1,by rw [←hbe];simpa using h2⟩
   have hne:(e::r).filter (fun x=>decide (aG d x=aG d e))≠ []:=by
    intro h;have:e∈(e::r).filter (fun x=>decide (aG d x=aG d e)):=qbV.2 ⟨qaz,by simp⟩;rw [h] at this;cases this
   have hsplit:=oX (b:=b) ha hb hge;have hbo:Kt (d+1) (p++[b]) ((e::r).filter fun x=>decide (aG d x=aG d e)):=by
    intro x hx;obtain⟨h1,h2⟩:=hown x hx;obtain⟨hd,he⟩:=qap.1 h2;refine⟨?_,hd⟩;rw [qaC hd,(hb x h1).1,he]
   generalize hO:(e::r).filter (fun x=>decide (aG d x=aG d e))=own at hown hne hbo;obtain⟨r1,r2,r3,r4,r5,r6⟩:=hrec own M b g hne (hO▸jI ha) hbo fun x hx=>hl x (hown x hx).1
   generalize hq:rec own (least own) M=q at r1 r2 r3 r4 r5 r6;have hlast:(((qak++[(⟨(aG d e).getD 0,least own-less,q.2⟩:cJ)]).getLast?).map (·.byte))=some b:=by
    rw [List.getLast?_append];simp [hbe]
   obtain⟨new,h1,h2,h3,h4,h5,h6,h7,h8,h9⟩:=Ce hrec r (qak++[⟨(aG d e).getD 0,least own-less,q.2⟩]) q.1 r1 ha.2 hb' hl' hv' (by
    intro y hyr b' hb2;rw [hlast] at hb2;cases hb2;exact hge y (qay _ hyr))
   generalize cq rec d less r (qak++[⟨(aG d e).getD 0,least own-less,q.2⟩]) q.1=z at h1 h2 h3 h4 h5 h6 h7 h8 h9;have hqz:q.2<z.1.length:=qaD r3 h3.length_le;refine⟨⟨(aG d e).getD 0,least own-less,q.2⟩::new,by rw [h1,qbh];rfl,h2,r2.trans h3,?_,?_,?_,?_,?_,?_⟩
   ·rw [qbx,List.pairwise_cons];refine⟨fun c hc=>?_,h4⟩;obtain⟨a,ha1,rfl⟩:=qa3.1 hc;have:=h5 a ha1 b hlast;simpa [hbe] using this
   ·intro a ha1 b' hb2;have hlt:b'<b:=by
     obtain⟨c,h1,h2⟩:=hy e qaz b' hb2;rw [hbe] at h1;cases h1;refine UInt8.lt_of_le_of_ne h2 fun h=>hla ?_
     rw [hb2,hbe,h]
    rcases qaK.1 ha1 with rfl|ha1
    ·simpa [hbe] using hlt
    ·exact UInt8.lt_trans hlt (h5 a ha1 b hlast)
   ·intro a ha1;rcases qaK.1 ha1 with rfl|ha1
    ·exact hqz
    ·exact h6 a ha1
   ·rcases h7 with h7|⟨a,ha1,h7⟩
    ·rcases r4 with⟨r4,-⟩|⟨-,r4⟩
     ·exact .inl (h7.trans r4)
     ·exact .inr ⟨_,qaz,by rw [h7];exact r4.symm⟩
    ·exact .inr ⟨a,qay _ ha1,h7⟩
   ·rw [qbl,h8,hlast];have hall:(e::r).filter (fun x=>decide (aG d x≠none∧aG d x≠(qak.getLast?).map (·.byte)))=e::r:=by
     rw [qdz];intro y hyr;obtain⟨c,h1,h2⟩:=hge y hyr;simp only [ne_eq,decide_not,Bool.decide_and,h1,reduceCtorEq,not_false_eq_true,decide_true,qcs,decide_false,qc1];simp only [Bool.not_eq_eq_eq_not,qcj,decide_eq_false_iff_not];intro hc;obtain⟨c',h3,h4⟩:=hy e qaz c hc.symm;rw [hbe] at h3;cases h3;have:c=b:=UInt8.le_antisymm h4 h2;subst this;exact hla (by rw [←hc,hbe])
    rw [hall]
    conv=>rhs;rw [hsplit]
    rw [qbe];congr 1
    ·have hO':(e::r).filter (fun x=>decide (aG d x=some b))=own:=by rw [←hO,hbe]
     rw [hO'];unfold jh;simp only
     rw [ID r1.1 h3 r3,r5,List.map_map];refine List.map_congr_left fun x hx=>?_
     obtain⟨h1,h2⟩:=hown x hx;have hle:=least_le hx;have hll:less≤least own:=by
      obtain⟨y,hy1,hy2⟩:=oT hne;rw [hy2];exact hv y (hown y hy1).1
     simp only [Function.comp,D,hbe,qbG];rw [tv h2];congr 1;omega
    ·congr 1;rw [qbp,if_neg (by simp [hbe])];refine List.filter_congr fun y hyr=>?_
     obtain⟨c,h1,-⟩:=hge y (qay _ hyr);simp [h1]
   ·intro k hk;rw [qbu];have:jd z.1 k (some M.length) ⟨(aG d e).getD 0,least own-less,q.2⟩=some q.1.length:=by
     unfold jd;show(if M.length≤q.2 then gk z.1 k q.2 M.length else some M.length)=_;rcases r4 with⟨r4,r4'⟩|⟨r4,-⟩
     ·rw [if_neg (by omega),r4]
     ·rw [if_pos r4,ua r1.1 h3 k q.2 M.length r3];exact r6 r4 k (by omega)
    rw [this];exact h9 k hk
theorem EH {less:Nat}:∀{l:List aP} {o:Bool×Nat},(∀e∈l,aG d e≠none)→l.foldl (fun s e=>if aG d e=none then(true,val e-less) else s) o=o
 | [],_,_=>rfl
 |x::l,o,h=>by
  rw [qbu,if_neg (h x qaz)];exact EH fun e he=>h e (qay _ he)
theorem U0 {less:Nat} {p:List UInt8}:∀{l:List aP},rk l→Kt d p l→((iq d less l).1=false→(iq d less l).2=0)∧
 l.map (D d less)=(if(iq d less l).1 then [([],(iq d less l).2)] else [])++(l.filter fun x=>decide (aG d x≠none)).map (D d less)
 | [],_,_=>⟨fun _=>rfl,rfl⟩
 |x::l,ha,hb=>by
  have hs:∀y∈l,aG d y≠none:=by
   intro y hy;obtain⟨c,h1,-⟩:=oB (hb x qaz).1 (hb y (qay _ hy)).1 (ha.1 y hy);rw [h1];simp
  have hf:l.filter (fun x=>decide (aG d x≠none))=l:=qdz.2 fun y hy=>by simpa using hs y hy
  unfold iq;rw [qbu,EH hs,qbp,hf];by_cases hx:aG d x=none
  ·have h1:decide (aG d x≠none)=false:=by simp [hx]
   rw [h1];simp [hx,D,AB hx]
  ·have h1:decide (aG d x≠none)=true:=by simpa using hx
   rw [h1];simp [hx]
theorem TZ:∀(f:Nat) (l:List aP) (d:Nat) (p:List UInt8) (M:List aZ),Good M→l≠ []→rk l→Kt d p l→(∀e∈l,e.word.length<d+f∧val e≤4294967296)→Gp M (pX f l d (least l) M) l d (least l)
 |0,l,d,p,M,g,hne,ha,hb,hl=>by
  obtain⟨x,hx⟩:=qdl l hne;have:=(hl x hx).1;have:=(hb x hx).2;omega
 |f+1,l,d,p,M,g,hne,ha,hb,hl=>by
  have hrec:Tx (fun own n M=>pX f own (d+1) n M) d (d+(f+1)) p:=fun own M b g1 h1 h2 h3 h4=>TZ f own (d+1) (p++[b]) M g1 h1 h2 h3 fun e he=>⟨by have:=(h4 e he).1;omega,(h4 e he).2⟩
  obtain⟨new,h1,h2,h3,h4,-,h6,h7,h8,h9⟩:=Ce (less:=least l) hrec l [] M g ha hb hl (fun e he=>least_le he) (fun y hy b hb=>by cases hb);obtain⟨f1,f2⟩:=U0 (less:=least l) ha hb;unfold pX;generalize cq (fun own n M=>pX f own (d+1) n M) d (least l) l [] M=z at h1 h2 h3 h4 h6 h7 h8 h9;generalize iq d (least l) l=o at f1 f2;rw [qbv] at h1;rw [h1];have hf0:(l.filter fun x=>decide (aG d x≠none∧aG d x≠(([]:List cJ).getLast?).map (·.byte)))=l.filter fun x=>decide (aG d x≠none):=List.filter_congr fun x _=>by simp
  rw [hf0] at h8;have hw:l.map (D d (least l))=(if o.1 then [([],o.2)] else [])++new.flatMap (jh z.1):=by rw [h8];exact f2
  have hs:WN z.1.length ⟨o.1,o.2,new⟩:=by
   refine⟨f1,h4,h6,?_,?_⟩
   ·cases ho:o.1 with
    |true=>exact .inl rfl
    |false=>
     refine .inr fun hn=>?_
     simp only at hn;rw [ho,hn] at hw;simp at hw;exact hne hw
   ·obtain⟨x,hx,hxv⟩:=oT hne;have hm:D d (least l) x∈l.map (D d (least l)):=qa3.2 ⟨x,hx,rfl⟩;rw [hw] at hm;have hx0:(D d (least l) x).2=0:=by unfold D;simp only;omega
    rcases qbF.1 hm with hm|hm
    ·cases ho:o.1 with
     |true=>
      rw [ho,if_pos rfl,qaY] at hm;rw [hm] at hx0;exact .inl ⟨rfl,hx0⟩
     |false=>
      rw [ho] at hm;simp at hm
    ·obtain⟨a,ha1,ha2⟩:=qds.1 hm;obtain⟨w,-,hw2⟩:=qa3.1 ha2;rw [←hw2] at hx0;exact .inr ⟨a,ha1,by simp only at hx0;omega⟩
  cases hi:z.1.findIdx? (fun x=>decide (x=⟨o.1,o.2,new⟩)) with
  |some j=>
   rw [ya hi];have hj:=EV hi;have hjl:j<z.1.length:=(qap.1 hj).1;have hz:z.1=M:=by
    rcases h7 with h7|⟨a,ha1,h7⟩
    ·exact h7
    ·have:=(h2.1 j _ hj).2.2.1 a ha1;omega
   refine⟨h2,h3,hjl,.inl ⟨hz,by rw [←hz];exact hjl⟩,?_,fun h=>?_⟩
   ·rw [hw,n_ h2.1 hj]
   ·simp only at h;rw [←hz] at h;omega
  |none=>
   rw [Fi hi];have hn:=EU hi;have g2:=K9 h2 hs hn fun w hw1=>by
    rw [←hw] at hw1;obtain⟨x,hx,rfl⟩:=qa3.1 hw1;exact qaV (qeH _ _) (hl x hx).2
   have hget:(z.1++[(⟨o.1,o.2,new⟩:aZ)])[z.1.length]?=some ⟨o.1,o.2,new⟩:=by rw [qaF (qao _),qbq];rfl
   have hp:z.1<+:z.1++[(⟨o.1,o.2,new⟩:aZ)]:=List.prefix_append _ _;refine⟨g2,h3.trans hp,by simp,.inr ⟨h3.length_le,by simp⟩,by rw [hw];exact Ko h2.1 hs,fun _ k hk=>?_⟩
   ·simp only at hk;obtain⟨k',rfl⟩:∃k',k=k'+1:=⟨k-1,by omega⟩;rw [s_ hget];have:List.foldl (jd (z.1++[(⟨o.1,o.2,new⟩:aZ)]) k') (some M.length) new=some z.1.length:=by
     rw [←h9 k' (by omega)];refine fold_congr fun a ha1 b=>?_
     unfold jd;congr 1;funext L;rw [ua h2.1 hp k' a.to L (h6 a ha1)]
    show(List.foldl (jd (z.1++[(⟨o.1,o.2,new⟩:aZ)]) k') (some M.length) new).bind _=_;rw [this];simp
end Go.Sto
namespace Go.Proofs.YtjoceidiioppiaaGreatDoor.sto
open Go.Am Go.Mdl Go.Sto
theorem T2:cg.ba 59=some (.int .u32):=by kernel_rfl
theorem tU:aR cg 61= .ok 3:=by kernel_rfl
variable {b:Nat}
theorem TI:av cg 61 (pw b 0) 1= .ok (pw b 1):=by kernel_rfl
theorem I5:av cg 61 (pw b 0) 2= .ok (pw b 2):=by kernel_rfl
def a_ (e:aP):List Value:=[aj e.word,.int .u32 e.weight,.bool e.gone]
theorem ay (A:Mem) (e:TypeId) (l:List Value):VB (A.alloc (aa e l)) e A.next (.var l.length) l:=⟨by rw [ae];omega,g_ A e l⟩
theorem yj {a:Nat} (h:a+b<18446744073709551616):aM .add .u64 (a:Int) (b:Int)= .ok (uN (a+b)):=bf (cV h)
variable {A:Mem} {e:aP}
theorem Md (he:e.weight<4294967296):bg cg 207 [.agg ⟨a_ e⟩] A (.int .u64 (val e:Nat)) (A.alloc (aa 61 (a_ e))):=by
 have hv:=ay A 61 (a_ e);have l1:ag cg (A.alloc (aa 61 (a_ e))).get 59 (.pointer (some ⟨A.next,1,none⟩))= .ok (.int .u32 e.weight):=hv.ld rfl T2 rfl;have l2:ag cg (A.alloc (aa 61 (a_ e))).get 4 (.pointer (some ⟨A.next,2,none⟩))= .ok (.bool e.gone):=hv.ld rfl My rfl;have c1:=bM (tb:=cg) (s:=59) (d:=113) (k:=.u32) (n:=e.weight) (by rw [T2];rfl) gZ (cV (by omega));unfold val;cases hg:e.gone with
 |true=>
  rw [hg] at l2;refine bm 60 (bH Tryz.func207) (by kernel_rfl) fun M=>?_
  simp (disch:=first|decide+kernel|omega) only [Tryz.f207,Aq,qal,au,I5,l2]<;>rfl
 |false=>
  rw [hg] at l2;refine bm 60 (bH Tryz.func207) (by kernel_rfl) fun M=>?_
  simp (disch:=first|decide+kernel|omega) only [Tryz.f207,Aq,qal,au,TI,I5,l1,l2,c1,yj]<;>rfl
def Gz (e:aP):List Value:=[.agg ⟨a_ e⟩]
theorem Zj {x y:aP} (h:Gz x=Gz y):x=y:=by
 obtain⟨w,n,g⟩:=x;obtain⟨w',n',g'⟩:=y;simp only [Gz,a_,qa4,Value.agg.injEq,qeL,Value.int.injEq,Value.bool.injEq,and_true,true_and] at h;obtain⟨h1,h2,h3⟩:=h;have h1:w=w':=by unfold aj at h1;simpa using h1
 cases qdC h2;subst h1 h3;rfl
variable {w:List UInt8}
theorem VS:bg cg 246 [aj w] A (.bool (decide (1≤w.length∧w.length≤255))) A:=by
 have hl:=cP (tb:=cg) (t:=9) (l:=w) ov;by_cases h1:1≤w.length<;>by_cases h2:w.length≤255
 all_goals
  refine bm 60 (bH Tryz.func246) (by kernel_rfl) fun M=>?_
  simp (config:={maxSteps:=4000000}) (disch:=first|decide+kernel|omega|simp only [Wq,qal]) only [Tryz.f246,Aq,qaq,reduceIte,qal,qam,hl,ef,nt,cL,h1,h2,and_true,true_and,and_false,false_and]<;>rfl
theorem SQ:bg cg 132 [aj w] A (.bool (decide (0<w.length∧w.length≤64))) A:=by
 have hl:=cP (tb:=cg) (t:=9) (l:=w) ov;by_cases h1:0<w.length<;>by_cases h2:w.length≤64
 all_goals
  refine bm 60 (bH Tryz.func132) (by kernel_rfl) fun M=>?_
  simp (config:={maxSteps:=4000000}) (disch:=first|decide+kernel|omega|simp only [Wq,qal]) only [Tryz.f132,Aq,qaq,reduceIte,qal,qam,hl,cT,nt,cL,bY,h1,h2,and_true,true_and,and_false,false_and]<;>rfl
variable {n:Nat}
theorem SU (hn:n<1099511627776):bg cg 216 [.int .u64 n] A (.int .i64 n) A:=by
 have m1:aN cg .min [113,113] [.int .u64 n,uN 1099511627776]= .ok (.int .u64 n):=by
  rw [R_,qbr (by omega)]
 have c1:=bM (tb:=cg) (s:=113) (d:=3) (k:=.u64) (n:=n) (by rw [gZ];rfl) DN (aV (by omega));refine bm 60 (bH Tryz.func216) (by kernel_rfl) fun M=>?_
 simp (disch:=first|decide+kernel|omega) only [Tryz.f216,Aq,qal,m1,c1]<;>rfl
theorem Mc {f:Bool}:bg cg 202 [.agg ⟨[.int .u64 n,.bool f]⟩] A (.bool (f&&decide (n≤4294967296))) (A.alloc (aa 280 [.int .u64 n,.bool f])):=by
 have hv:=ay A 280 [.int .u64 n,.bool f];have l1:ag cg (A.alloc (aa 280 [.int .u64 n,.bool f])).get 113 (pw A.next 0)= .ok (.int .u64 n):=hv.ld rfl gZ rfl;have l2:ag cg (A.alloc (aa 280 [.int .u64 n,.bool f])).get 4 (pw A.next 1)= .ok (.bool f):=hv.ld rfl My rfl;have f0:∀b,av cg 280 (pw b 0) 0= .ok (pw b 0):=fun b=>by kernel_rfl
 have f1:∀b,av cg 280 (pw b 0) 1= .ok (pw b 1):=fun b=>by kernel_rfl
 cases f
 all_goals
  refine bm 60 (bH Tryz.func202) (by kernel_rfl) fun M=>?_
  simp (config:={maxSteps:=4000000}) (disch:=first|decide+kernel|omega|simp only [Wq,qal]) only [Tryz.f202,Aq,qaq,reduceIte,qal,qam,au,f0,f1,l1,l2,nt,cL,qcs,qdT]<;>rfl
end Go.Proofs.YtjoceidiioppiaaGreatDoor.sto
namespace Go.Proofs.YtjoceidiioppiaaGreatDoor.sto
open Go.Am
abbrev UE:List UInt8:=[48,49,50,51,52,53,54,55,56,57,97,98,99,100,101,102,103,104,105,106,107,108,109,110,111,112,113,114,115,116,117,118,119,120,121,122]
def Hk (d:Nat):UInt8:=UE.getD d 0
def ot:Nat→Nat→List UInt8
 |0,_=>[]
 |k+1,n=>if n<36 then [Hk n] else ot k (n/36)++[Hk (n % 36)]
def qe (n:Nat):List UInt8:=ot 13 n
theorem xf:∀k n,(ot k n).length≤k
 |0,_=>qao _
 |k+1,n=>by
  unfold ot;split
  ·simp
  ·rw [qar];have:=xf k (n/36);simp;omega
def Tl (c:UInt8):Nat:=if c<58 then c.toNat-48 else c.toNat-87
theorem wq:∀d,d<36→Tl (Hk d)=d∧48≤(Hk d).toNat:=by decide
theorem xg:∀k n,n<36^k→(ot k n).foldl (fun a c=>36*a+Tl c) 0=n
 |0,n,h=>by simp at h;subst h;rfl
 |k+1,n,h=>by
  unfold ot;split
  ·rename_i h1;show 36*0+Tl (Hk n)=n;rw [(wq n h1).1];omega
  ·rw [qcR,xg k (n/36) (by rw [qdW] at h;omega)];show 36*(n/36)+Tl (Hk (n % 36))=n;rw [(wq _ (qbE _ (by omega))).1];omega
theorem rL:∀k n,∀c∈ot k n,48≤c.toNat
 |0,_,c,h=>by cases h
 |k+1,n,c,h=>by
  unfold ot at h;split at h
  ·rename_i h1;rw [qaY.1 h];exact(wq n h1).2
  ·rcases qbF.1 h with h|h
   ·exact rL k _ c h
   ·rw [qaY.1 h];exact(wq _ (qbE _ (by omega))).2
theorem ZP:bS cg 372= .ok (.agg ⟨qa7 65 (.int .u8 0)⟩):=by kernel_rfl
theorem Qr:cg.ba 372=some (.array 65 5):=by kernel_rfl
variable {b i:Nat}
theorem TP (h:i<65):aU cg 372 (pw b 0) (.int .i64 i)= .ok (pw b i):=by
 have:=l_ (tb:=cg) (b:=b) (o:=0) (k:=.i64) Qr uU h;rwa [qa1] at this
variable {A:Mem} {o c:Nat} {l:List Value} {w:List UInt8}
theorem P9 {k:Kd} {e:TypeId} (h:dw A e b k l) (hw:l.drop o=cZ w) (h0:w≠ []):df cg A.get 74 9 (.slice (some ⟨b,o,none⟩) w.length c)= .ok (aj w):=by
 obtain⟨cs,h1,h2⟩:=h;have hg:cs.iu w.length o=some (cZ w):=fq cs w.length o (cZ w) (cI w) (fun j hj=>by
  have e1:(cZ w)[j]?=l[o+j]?:=by rw [←hw,qcc]
  rw [e1];refine h2 (o+j) ?_;have:=congrArg qcE hw;rw [qc3,cI] at this;omega)
 have hb:qaw w.length 0=false:=by
  cases hq:qaw w.length 0 with
  |false=>rfl
  |true=>
   have:=qaL hq;exact absurd (qaP.1 (by omega)) h0
 unfold df;simp only [zo,ov,mR,iB,c9,hb,cond_false,h1,qb2,hg,R.aw];rw [show bytesOf (cZ w)= .ok w from iQ w];rfl
theorem P1 (h:i<65):c6 cg 372 (.pointer (some ⟨b,0,none⟩)) (some (.int .i64 i)) none none= .ok (.slice (some ⟨b,i,none⟩) (65-i) (2*(65-i))):=by
 have e1:bound (some (.int .i64 i)) 0 65= .ok i:=by
  show(bif qaq i 65 then R.ok i else _)=_;rw [show qaq i 65=true by rw [qdm];omega];rfl
 have e2:bound none 65 65= .ok 65:=rfl;have e3:qaw 65 i=false:=by
  cases hq:qaw 65 i with
  |false=>rfl
  |true=>have:=qaL hq;omega
 unfold c6;simp only [Qr,e2,e1,R.aw,uU,e3,cond_false,h_,qb2,qa1]
variable {d:Nat}
theorem Eo {kd:IntKind} (h:d<36):nf cg 9 (aj UE) (.int kd (d:Int))= .ok (bN ((Hk d).toNat)):=dQ ov h
theorem I8 (t:T Value):ev t (.const (.string ⟨#[48,49,50,51,52,53,54,55,56,57,97,98,99,100,101,102,103,104,105,106,107,108,109,110,111,112,113,114,115,116,117,118,119,120,121,122]⟩))= .ok (aj UE):=rfl
noncomputable def gg:Code:=qb0.body.getD .skip
noncomputable def G0:Code:=sub gg [1,1,1,1,1,0,1,1,1,0,0,0]
theorem Ri:qb0.body=some (.seq (sub gg [0]) (.seq (sub gg [1,0]) (.seq (sub gg [1,1,0]) (.seq (sub gg [1,1,1,0]) (.seq (sub gg [1,1,1,1,0]) (.seq (.seq (sub gg [1,1,1,1,1,0,0]) (sub gg [1,1,1,1,1,0,1])) (.seq (sub gg [1,1,1,1,1,1,0]) (.seq (sub gg [1,1,1,1,1,1,1,0]) (.seq (sub gg [1,1,1,1,1,1,1,1,0]) (sub gg [1,1,1,1,1,1,1,1,1])))))))))):=by kernel_rfl
theorem Rh:sub gg [1,1,1,1,1,0,1]= .cond (.tmp 34) (sub gg [1,1,1,1,1,0,1,0]) (.seq (sub gg [1,1,1,1,1,0,1,1,0]) (.seq (.block 2 (.loop G0)) (.seq (sub gg [1,1,1,1,1,0,1,1,1,1,0]) (sub gg [1,1,1,1,1,0,1,1,1,1,1])))):=by kernel_rfl
theorem SX:bg cg 276 [iN 36] A (.bool false) A:=by
 have e:aM .and .i64 ((36:Nat):Int) ((35:Nat):Int)= .ok (iN 32):=by kernel_rfl
 have e2:aM .sub .i64 ((36:Nat):Int) ((1:Nat):Int)= .ok (iN 35):=by kernel_rfl
 refine bm 60 (bH Tryz.func276) (by kernel_rfl) fun M=>?_
 simp (disch:=first|decide+kernel|omega) only [Tryz.f276,Aq,qal,e,e2]<;>rfl
variable {n:Nat}
theorem Pm (hn:n<18446744073709551616):∃v A',bg cg 234 [.slice none 0 0,.int .u64 n,iN 36,.bool false,.bool false] A v A'∧v= .tuple ⟨[.slice none 0 0,aj (qe n)]⟩:=by
 refine cF (bH Tryz.func234) Ri (by kernel_rfl) ?_;obtain⟨g,hg⟩:=SX (A:=A.alloc (aa 372 (qa7 65 (.int .u8 0))));apply W.q
 ·intro M;simp (disch:=first|decide+kernel|omega) only [gg,qb0,Aq,qal];rfl
 apply W.q
 ·intro M;simp (config:={maxSteps:=4000000}) (disch:=first|decide+kernel|omega|simp only [Wq,qal]) only [gg,qb0,Aq,qaq,reduceIte,qal,qam,cT,bY,Nat.reduceLT];rfl
 apply W.q
 ·intro M;simp (disch:=first|decide+kernel|omega) only [gg,qb0,Aq,qal,ZP,au];rfl
 apply W.q
 ·intro M;simp (disch:=first|decide+kernel|omega) only [gg,qb0,Aq,qal];rfl
 apply W.q
 ·intro M;simp (disch:=first|decide+kernel|omega) only [gg,qb0,Aq,qal];rfl
 apply W.seq;apply W.seq;apply W.cN (g) 20
 ·intro M hM;simp (disch:=first|decide+kernel|omega) only [gg,qb0,Aq,qal,hg];rfl
 show W cg (sub gg [1,1,1,1,1,0,1]) _ _;rw [Rh];refine W.cond (p:=false) (by simp only [T.aH,qal,if_true,if_false,jk,fe]) (fun h=>by cases h) fun _=>?_
 have cv:=bM (tb:=cg) (s:=3) (d:=113) (k:=.i64) (n:=36) (by rw [DN];rfl) gZ (cV (by omega));apply W.q
 ·intro M;simp (disch:=first|decide+kernel|omega) only [gg,qb0,Aq,qal,cv];rfl
 apply W.seq;apply W.block;refine W.up 12 (fun j t D=>∃l u w,D=A.alloc (aa 372 l)∧l.length=65∧(∀v∈l,aJ v=true)∧qe n=ot (13-j) u++w∧u<36^(13-j)∧u<18446744073709551616∧w.length=j∧l.drop (65-j)=cZ w∧Sl t [(1,.int .u64 u),(3,.bool false),(4,.bool false),(10,.slice none 0 0),(12,pw A.next 0),(13,iN (65-j)),(17,uN 36)]) ?_ (qaB _) ⟨_,n,[],rfl,by simp,by simp [aJ],by rw [qbt];rfl,by omega,hn,rfl,by rw [qdK (by simp)];rfl,?_⟩
 ·rintro j t D hj ⟨l,u,w,rfl,hl,h1,hd,hu,hu2,hw,hdr,g1,g3,g4,g10,g12,g13,g17,-⟩;have s1:aM .sub .i64 ((65-j:Nat):Int) ((1:Nat):Int)= .ok (iN (65-(j+1))):=by rw [br (by omega) (aV (by omega)),show 65-j-1=65-(j+1) by omega]
  have st:∀c:UInt8,aW cg (A.alloc (aa 372 l)) 5 (pw A.next (65-(j+1))) (bN c.toNat)= .ok (A.alloc (aa 372 (l.set (65-(j+1)) (bN c.toNat)))):=fun c=>eG uU rfl rfl (by omega)
  have hset:∀c:UInt8,(l.set (65-(j+1)) (bN c.toNat)).drop (65-(j+1))=cZ (c::w):=fun c=>by
   rw [qbi (by rw [qaQ];omega),List.getElem_set_self,show 65-(j+1)+1=65-j by omega,List.drop_set_of_lt (by omega),hdr];rfl
  obtain⟨k,hk⟩:∃k,13-j=k+1:=⟨12-j,by omega⟩;rw [hk] at hd hu;by_cases hge:36≤u
  ·have q1:=nu (b:=36) hu2 (by omega);have m1:aM .mul .u64 ((u/36:Nat):Int) ((36:Nat):Int)= .ok (uN (u/36*36)):=j5 (cV (by omega));have s2:aM .sub .u64 ((u:Nat):Int) ((u/36*36:Nat):Int)= .ok (uN (u % 36)):=by rw [br (by omega) (cV (by omega)),show u-u/36*36=u % 36 by omega]
   have ix:=Eo (d:=u % 36) (kd:=.u64) (qbE _ (by omega));have st1:=st (Hk (u % 36));have hd2:ot (k+1) u=ot k (u/36)++[Hk (u % 36)]:=by rw [ot,if_neg (by omega)]
   apply W.run 20
   ·intro M;simp (disch:=first|decide+kernel|omega) only [G0,gg,qb0,Aq,qal,g1,g12,g13,g17,ef,cL,hge,s1,q1,m1,s2,I8,ix,TP,st1];rfl
   have hj2:j<12:=by
    rcases qaZ j 12 with h|h
    ·exact h
    ·have e:k=0:=by omega
     subst e;simp at hu;omega
   refine⟨hj2,_,_,rfl,_,u/36,Hk (u % 36)::w,rfl,by rw [qaQ];exact hl,fun v hv=>?_,?_,?_,by omega,by rw [qaA,hw],hset _,?_⟩
   ·rcases qbR hv with hv|rfl
    ·exact h1 v hv
    ·rfl
   ·rw [hd,hd2,show 13-(j+1)=k by omega,qbh];rfl
   ·rw [show 13-(j+1)=k by omega];rw [qdW] at hu;omega
   ·simp only [Sq,qal,qam,g3,g4,g10,g12,g17]
  ·have ix:=Eo (d:=u) (kd:=.u64) (by omega);have st1:=st (Hk u);have hd2:ot (k+1) u=[Hk u]:=by rw [ot,if_pos (by omega)]
   rw [hd2] at hd;have sl:=P1 (b:=A.next) (i:=65-(j+1)) (by omega);have hsv:df cg (A.alloc (aa 372 (l.set (65-(j+1)) (bN ((Hk u).toNat))))).get 74 9 (.slice (some ⟨A.next,65-(j+1),none⟩) (65-(65-(j+1))) (2*(65-(65-(j+1)))))= .ok (aj (qe n)):=by
    have h:=P9 (A:=A.alloc (aa 372 (l.set (65-(j+1)) (bN ((Hk u).toNat))))) (c:=2*(j+1)) (g_ A 372 _) (hset (Hk u)) (by simp);rw [qaA,hw] at h;rw [show 65-(65-(j+1))=j+1 by omega,hd];exact h
   apply W.run 20
   ·intro M;simp (disch:=first|decide+kernel|omega) only [G0,gg,qb0,Aq,qal,g1,g17,ef,cL,hge];rfl
   apply W.q
   ·intro M;simp (disch:=first|decide+kernel|omega) only [gg,qb0,Aq,qal,g13,s1];rfl
   apply W.run 20
   ·intro M;simp (disch:=first|decide+kernel|omega) only [gg,qb0,Aq,qal,g1,g12,I8,ix,TP,st1];rfl
   apply W.q
   ·intro M;simp (disch:=first|decide+kernel|omega) only [gg,qb0,Aq,qal,g3];rfl
   apply W.q
   ·intro M;simp (disch:=first|decide+kernel|omega) only [gg,qb0,Aq,qal,g4];rfl
   apply W.q
   ·intro M;simp (disch:=first|decide+kernel|omega) only [gg,qb0,Aq,qal,g12,sl,Zx,hsv];rfl
   apply W.run 20
   ·intro M;simp (disch:=first|decide+kernel|omega) only [gg,qb0,Aq,qal];rfl
   exact⟨by simp,rfl,_,(by simp only [qb0,Aq,qal,g10]<;>rfl),rfl⟩
 ·simp only [Sq,qal,qam]
theorem SN (hn:n<18446744073709551616):∃A',bg cg 224 [.int .u64 n,iN 36] A (aj (qe n)) A':=by
 obtain⟨v,B,⟨g,hg⟩,rfl⟩:=Pm (A:=A) hn;have h237:bg cg 260 [.int .u64 n,iN 36] A (aj (qe n)) B:=by
  refine aT (g) 60 (bH Tryz.func260) (by kernel_rfl) fun M hM=>?_
  simp (disch:=first|decide+kernel|omega) only [Tryz.f260,Aq,qal,hg,qau,qav]<;>rfl
 obtain⟨g2,hg2⟩:=h237;refine⟨B,?_⟩;refine aT (g2) 60 (bH Tryz.func224) (by kernel_rfl) fun M hM=>?_
 simp (disch:=first|decide+kernel|omega) only [Tryz.f224,Aq,qal,hg2]<;>rfl
end Go.Proofs.YtjoceidiioppiaaGreatDoor.sto
namespace Go.Proofs.YtjoceidiioppiaaGreatDoor.crc
open Go.Am
noncomputable def cg:bO:=Qb qcO.prog .e
theorem fc:cC cg:=Gb qcO _ fun f k fn h=>by cases h
variable {k:Nat} {fn:Func}
theorem bH (h:qba.funcs[k]?=some fn):cg.fn.get k=some fn:=by
 show(T.ofList qcO.prog.funcs.toList).get k=_;rw [T.ir,qaU];exact h
theorem ov:cg.ba 9=some .string:=by kernel_rfl
theorem Qm:cg.ba 59=some (.int .u32):=by kernel_rfl
theorem mR:cg.ba 5=some (.int .u8):=by kernel_rfl
def Cg (n b:Nat):Nat:=if n % 2≠b then n/2^^^3988292384 else n/2
variable {n:Nat}
theorem QQ (b:Nat) (h:n<4294967296):Cg n b<4294967296:=by
 unfold Cg;split
 ·exact qdE (n:=32) (by omega) (by omega)
 ·omega
theorem SK (n b:Nat) (hn:n<4294967296):call cg 30 250 [.int .u32 n,.int .u32 b] dZ= .ok (.val (.int .u32 (Cg n b)) dZ):=by
 unfold call;simp only [bH Tryz.func250];simp only [Tryz.f250,mo,qaA,qaT];have h2:n/2<4294967296:=by omega
 by_cases hb:n % 2=b
 all_goals
  simp (disch:=first|decide+kernel|omega|simp only [Wq,qal]) only [Aq,qaq,reduceIte,qal,qam,hb];simp [Cg,hb]
theorem Ij (n:Nat) (hn:n<4294967296):call cg 30 249 [.int .u32 n] dZ= .ok (.val (wN (4294967295-n)) dZ):=by
 unfold call;simp only [bH Tryz.func249];simp only [Tryz.f249,mo,qaA,qaT];simp (disch:=first|decide+kernel|omega|simp only [Wq,qal]) only [Aq,qaq,reduceIte,qal,qam]
def KK:List Value→Option Value
 | [.int .u32 (.ofNat n),.int .u32 (.ofNat b)]=>if n<4294967296 then some (.int .u32 (Cg n b)) else none
 |_=>none
def pZ:List Value→Option Value
 | [.int .u32 (.ofNat n)]=>if n<4294967296 then some (.int .u32 (4294967295-n:Nat)) else none
 |_=>none
theorem N_:b9 cg.P 250 (aK KK):=by
 refine dP fc (bH Tryz.func250) (c:=(Tryz.f250.body).getD .skip) (by kernel_rfl) fun args v h=>?_
 unfold KK at h;split at h
 ·rename_i n b;split at h
  ·rename_i hn;cases h;exact⟨by simp [flat],by simp [flat],_,_,SK n b hn⟩
  ·cases h
 ·cases h
theorem ET:b9 cg.P 249 (aK pZ):=by
 refine dP fc (bH Tryz.func249) (c:=(Tryz.f249.body).getD .skip) (by kernel_rfl) fun args v h=>?_
 unfold pZ at h;split at h
 ·rename_i n;split at h
  ·rename_i hn;cases h;exact⟨by simp [flat],by simp [flat],_,_,Ij n hn⟩
  ·cases h
 ·cases h
noncomputable def af:bO:=(cg.qd 250 (aK KK)).qd 249 (aK pZ)
theorem zm:cC af:=bV (bV fc N_) ET
variable {A:Mem} {b:Nat}
theorem call19 {ih:Code→St→R (Ex×St)} (hn:n<4294967296):bA af ih (.fn 250 [.int .u32 n,.int .u32 b]) A= .ok (.val (.int .u32 (Cg n b)) A):=
 cr (c:=(Tryz.f250.body).getD .skip) (bH Tryz.func250) (by kernel_rfl) (by kernel_rfl) (h:=aK KK) (by kernel_rfl) (by
  unfold aK;show(match KK [.int .u32 (.ofNat n),.int .u32 (.ofNat b)] with|some v=>R.ok (v,A)|none=>.no 600)=_;simp only [KK,if_pos hn])
theorem call18 {ih:Code→St→R (Ex×St)} (hn:n<4294967296):bA af ih (.fn 249 [.int .u32 n]) A= .ok (.val (wN (4294967295-n)) A):=
 cr (c:=(Tryz.f249.body).getD .skip) (bH Tryz.func249) (by kernel_rfl) (by kernel_rfl) (h:=aK pZ) (by kernel_rfl) (by
  unfold aK;show(match pZ [.int .u32 (.ofNat n)] with|some v=>R.ok (v,A)|none=>.no 600)=_;simp only [pZ,if_pos hn])
theorem Gd:af.ba 9=some .string:=ov
theorem Qn:af.ba 59=some (.int .u32):=Qm
theorem Qu:af.ba 5=some (.int .u8):=mR
def ZD (p:Nat×Nat):Nat×Nat:=(Cg p.1 (p.2 % 2),p.2/2)
def vq:Nat→Nat×Nat→Nat×Nat
 |0,p=>p
 |k+1,p=>ZD (vq k p)
theorem wm {p:Nat×Nat} (h1:p.1<4294967296) (h2:p.2<4294967296):∀k,(vq k p).1<4294967296∧(vq k p).2<4294967296
 |0=>⟨h1,h2⟩
 |k+1=>by
  obtain⟨a,b⟩:=wm h1 h2 k;refine⟨QQ _ a,?_⟩;show(vq k p).2/2<_;omega
def Aj (n c:Nat):Nat:=(vq 8 (n,c)).1
variable {c:Nat}
theorem Na (h:n<4294967296) (h2:c<4294967296):Aj n c<4294967296:=(wm (p:=(n,c)) h h2 8).1
def zk (n:Nat) (l:List UInt8):Nat:=l.foldl (fun n c=>Aj n c.toNat) n
theorem Kg (h:n<4294967296) (l:List UInt8):zk n l<4294967296:=by
 unfold zk
 induction l generalizing n with
 |nil=>exact h
 |cons c l ih=>exact ih (Na h (by have:=c.toNat_lt;omega))
noncomputable def DX:Code:=qb4.body.getD .skip
noncomputable def jq:Code:=sub DX [1,1,0,1,0,0]
noncomputable def IQ:Code:=sub jq [1,0,0,1,1,0,0]
theorem Nc:qb4.body=some (.seq (sub DX [0]) (.seq (sub DX [1,0]) (.seq (.seq (sub DX [1,1,0,0]) (.block 0 (.loop jq))) (.seq (sub DX [1,1,1,0]) (sub DX [1,1,1,1]))))):=by kernel_rfl
theorem Nd:jq=(.seq (.seq (sub jq [0,0]) (sub jq [0,1])) (.seq (.block 1 (.seq (sub jq [1,0,0,0]) (.seq (sub jq [1,0,0,1,0]) (.block 2 (.loop IQ))))) (sub jq [1,1]))):=by kernel_rfl
def In (l:List UInt8) (a:Nat) (p:Nat×Nat) (i:Nat) (s:St):Prop:=
 s.n=30∧s.d=[]∧s.ro=none∧s.m=dZ∧s.t.get 0=some (aj l)∧s.t.get 4=some (.int .i64 (a:Nat))∧s.t.get 3=some (.int .u32 ((vq i p).1:Nat))∧s.t.get 5=some (.int .u32 ((vq i p).2:Nat))∧s.t.get 6=some (.int .i64 (i:Nat))
theorem RU {l:List UInt8} {a n0:Nat} (h1:n0<4294967296) (h2:c<4294967296) {s:St} {K:Ex→St→Prop} (h:In l a (n0,c) 0 s)
 (hk:∀t:T Value,t.get 0=some (aj l)→t.get 4=some (.int .i64 (a:Nat))→t.get 3=some (.int .u32 (Aj n0 c:Nat))→K (.exit 2) ⟨t,30,[],dZ,none⟩):W af (.loop IQ) s K:=by
 refine W.loop (fun s=>∃i,i≤8∧In l a (n0,c) i s) (fun s=>8-(match s.t.get 6 with|some (.int _ i)=>i.toNat|_=>0)) ?_ ⟨0,by omega,h⟩;rintro⟨t,n,d,m,ro⟩ ⟨i,hi,h01,h02,h03,h04,g0,g4,g3,g5,g6⟩;simp only at h01 h02 h03 h04 g0 g4 g3 g5 g6;subst h01 h02 h03 h04;obtain⟨b1,b2⟩:=wm (p:=(n0,c)) h1 h2 i;by_cases hlt:i<8
 ·apply W.run 20
  ·intro m;simp (disch:=first|decide+kernel|omega) only [IQ,jq,DX,qb4,Aq,qal,g0,g3,g4,g5,g6,call19,hlt];rfl
  ·refine⟨⟨i+1,by omega,rfl,rfl,rfl,rfl,?_,?_,?_,?_,?_⟩,?_⟩
   ·simp only [T.aH,qal,if_true,if_false,g0]
   ·simp only [T.aH,qal,if_true,if_false,g4]
   ·simp only [T.aH,qal,if_true,if_false];rfl
   ·simp only [T.aH,qal,if_true,if_false];rfl
   ·simp only [T.aH,qal,if_true,if_false]
   ·simp only [T.aH,qal,if_true,if_false,g6,qdj];exact qec (by omega) (qbP _)
 ·have h8:i=8:=by omega
  subst h8;apply W.run 20
  ·intro m;simp (disch:=first|decide+kernel|omega) only [IQ,jq,DX,qb4,Aq,qal,g0,g3,g4,g5,g6,call19];rfl
  ·refine hk _ ?_ ?_ ?_
   ·simp only [T.aH,qal,if_true,if_false,g0]
   ·simp only [T.aH,qal,if_true,if_false,g4]
   ·simp only [T.aH,qal,if_true,if_false,g3];rfl
def Out (l:List UInt8) (k:Nat) (s:St):Prop:=
 s.n=30∧s.d=[]∧s.ro=none∧s.m=dZ∧s.t.get 0=some (aj l)∧s.t.get 4=some (.int .i64 (k:Nat))∧s.t.get 3=some (.int .u32 (zk 4294967295 (l.take k):Nat))
theorem Mq (n:Nat) (l:List UInt8) (k:Nat) (h:k<l.length):zk n (l.take (k+1))=Aj (zk n (l.take k)) (l.getD k 0).toNat:=by
 unfold zk;rw [qaC h,qcR];simp [List.getD,qan h]
theorem Sj {l:List UInt8} (hl:l.length<9223372036854775807) {s:St} {K:Ex→St→Prop} (h:Out l 0 s)
 (hk:∀t:T Value,t.get 3=some (.int .u32 (zk 4294967295 l:Nat))→K (.exit 0) ⟨t,30,[],dZ,none⟩):W af (.loop jq) s K:=by
 refine W.loop (fun s=>∃k,k≤l.length∧Out l k s) (fun s=>l.length-(match s.t.get 4 with|some (.int _ i)=>i.toNat|_=>0)) ?_ ⟨0,by omega,h⟩;rintro⟨t,n,d,m,ro⟩ ⟨k,hk1,h01,h02,h03,h04,g0,g4,g3⟩;simp only at h01 h02 h03 h04 g0 g4 g3;subst h01 h02 h03 h04;have b3:=Kg (n:=4294967295) (by omega) (l.take k);have b5:=Ck (l.getD k 0);rw [Nd];by_cases hlt:k<l.length
 ·apply W.seq;apply W.run 20
  ·intro m;simp (disch:=first|decide+kernel|omega) only [jq,DX,qb4,Aq,qal,g0,g3,g4,cP Gd,hlt];rfl
  apply W.seq;apply W.block;apply W.seq;apply W.run 20
  ·intro m;simp (disch:=first|decide+kernel|omega) only [jq,DX,qb4,Aq,qal,g0,g3,g4,dQ Gd,gi,Qu,Qn];rfl
  apply W.seq;apply W.run 20
  ·intro m;simp (disch:=first|decide+kernel|omega) only [jq,DX,qb4,Aq,qal];rfl
  apply W.block;refine RU (l:=l) (a:=k) (n0:=zk 4294967295 (l.take k)) (c:=(l.getD k 0).toNat) b3 (by omega) ⟨rfl,rfl,rfl,rfl,?_,?_,?_,?_,?_⟩ ?_
  ·simp only [T.aH,qal,if_true,if_false,g0]
  ·simp only [T.aH,qal,if_true,if_false,g4]
  ·simp only [T.aH,qal,if_true,if_false,g3];first|done|rfl
  ·simp only [T.aH,qal,if_true,if_false];first|done|rfl
  ·simp only [T.aH,qal,if_true,if_false];first|done|rfl
  intro t2 q0 q4 q3;apply W.run 20
  ·intro m;simp (disch:=first|decide+kernel|omega) only [jq,DX,qb4,Aq,qal,q0,q3,q4];rfl
  refine⟨⟨k+1,by omega,rfl,rfl,rfl,rfl,?_,?_,?_⟩,?_⟩
  ·simp only [T.aH,qal,if_true,if_false,q0]
  ·simp only [T.aH,qal,if_true,if_false]
  ·simp only [T.aH,qal,if_true,if_false,q3,Mq _ _ _ hlt]
  ·simp only [T.aH,qal,if_true,if_false,g4,qdj];exact qec (by omega) (qbP _)
 ·have hkl:k=l.length:=by omega
  subst hkl;rw [qaR] at g3;apply W.seq;apply W.run 20
  ·intro m;simp (disch:=first|decide+kernel|omega) only [jq,DX,qb4,Aq,qal,g0,g3,g4,cP Gd];rfl
  refine hk _ ?_;simp only [T.aH,qal,if_true,if_false,g3]
def j6 (l:List UInt8):Nat:=4294967295-zk 4294967295 l
theorem Ie (l:List UInt8) (hl:l.length<9223372036854775807):jt af 211 [aj l] dZ (.int .u32 (j6 l:Nat)) dZ:=by
 have b:=Kg (n:=4294967295) (by omega) l;obtain⟨v,A',h1,h2,h3⟩:∃v A',jt af 211 [aj l] dZ v A'∧v= .int .u32 (j6 l:Nat)∧A'=dZ:=by
  refine tu (bH Tryz.func211) Nc (by rw [Tryz.ntmps211];simp) ?_;apply W.seq;apply W.run 20
  ·intro m;simp (disch:=first|decide+kernel|omega) only [DX,qb4,Aq,qal];rfl
  apply W.seq;apply W.run 20
  ·intro m;simp (disch:=first|decide+kernel|omega) only [DX,qb4,Aq,qal,call18];rfl
  apply W.seq;apply W.seq;apply W.run 20
  ·intro m;simp (disch:=first|decide+kernel|omega) only [DX,qb4,Aq,qal];rfl
  apply W.block;refine Sj hl ⟨rfl,rfl,rfl,rfl,?_,?_,?_⟩ ?_
  ·simp only [T.aH,T.bI,T.cU,qal,if_true,if_false]
  ·simp only [T.aH,T.bI,T.cU,qal,if_true,if_false];first|done|rfl
  ·simp only [T.aH,T.bI,T.cU,qal,if_true,if_false];first|done|rfl
  intro t g3;apply W.seq;apply W.run 20
  ·intro m;simp (disch:=first|decide+kernel|omega) only [DX,qb4,Aq,qal,g3,call18];rfl
  apply W.run 20
  ·intro m;simp (disch:=first|decide+kernel|omega) only [DX,qb4,Aq,qal];rfl
  refine⟨.inr rfl,dZ,[.int .u32 (j6 l:Nat)],rfl,?_,rfl,rfl⟩;simp only [qb4,eV,jk,T.aH,qal,if_true,if_false,fe,R.aw];rfl
 subst h2 h3;exact h1
def four (n:Nat):List UInt8:=[.ofNat (n % 256),.ofNat (n/256 % 256),.ofNat (n/65536 % 256),.ofNat (n/16777216)]
theorem DO:af.ba 74=some (.slice 5):=by kernel_rfl
theorem Z5 (a b c d:Int):a6 af 74 4 [(0,.int .u8 a),(1,.int .u8 b),(2,.int .u8 c),(3,.int .u8 d)]= .ok (aa 5 [.int .u8 a,.int .u8 b,.int .u8 c,.int .u8 d],.mO 4 8):=by kernel_rfl
variable {d:Nat}
theorem XH {a:Nat} (ha:a<256) (hb:b<256) (hc:c<256) (hd:d<256):
 df af (A.alloc (aa 5 [.int .u8 a,.int .u8 b,.int .u8 c,.int .u8 d])).get 74 9 (.slice (some ⟨A.next,0,none⟩) 4 8)= .ok (aj [.ofNat a,.ofNat b,.ofNat c,.ofNat d]):=by
 refine sV (tb:=af) (l:=[.ofNat a,.ofNat b,.ofNat c,.ofNat d]) (e:=5) (k:=.var 4) DO Gd Qu ?_;unfold Bytes;rw [ax,iO ha,iO hb,iO hc,iO hd];rfl
theorem Pu (n:Nat) (hn:n<4294967296):∃A,call af 30 210 [.int .u32 n] dZ= .ok (.val (aj (four n)) A):=by
 apply Exists.intro;unfold call;simp only [show af.fn.get 210=some Tryz.f210 from bH Tryz.func210];simp only [Tryz.f210,mo,qaA,qaT];simp (disch:=first|decide+kernel|omega) only [Aq,qal,gi,Qu,Qn,Z5,lL _ _ _ _ _ _ _ _ _ _ DO Gd,XH];rfl
def Mp:List Value→Option Value
 | [.string s]=>if s.data.toList.length<1000000 then some (.int .u32 (j6 s.data.toList:Nat)) else none
 |_=>none
def AO:List Value→Option Value
 | [.int .u32 (.ofNat n)]=>if n<4294967296 then some (aj (four n)) else none
 |_=>none
theorem Oh:b9 af.P 211 (aK Mp):=by
 refine dP zm (f:=211) (fn:=qb4) (bH Tryz.func211) Nc fun args v h=>?_
 unfold Mp at h;split at h
 ·rename_i s;split at h
  ·rename_i hn;cases h;obtain⟨n,hr⟩:=Ie s.data.toList (by omega);exact⟨by simp [flat],by simp [flat],n,_,hr⟩
  ·cases h
 ·cases h
theorem Lb:b9 af.P 210 (aK AO):=by
 refine dP zm (f:=210) (fn:=Tryz.f210) (bH Tryz.func210) (c:=(Tryz.f210.body).getD .skip) (by kernel_rfl) fun args v h=>?_
 unfold AO at h;split at h
 ·rename_i n;split at h
  ·rename_i hn;cases h;obtain⟨A,hr⟩:=Pu n hn;exact⟨by simp [flat],by simp [flat,aj],30,_,hr⟩
  ·cases h
 ·cases h
noncomputable def Qc:bO:=(af.qd 211 (aK Mp)).qd 210 (aK AO)
theorem IA:cC Qc:=bV (bV zm Oh) Lb
theorem call12 {ih:Code→St→R (Ex×St)} {l:List UInt8} (hl:l.length<1000000):bA Qc ih (.fn 211 [aj l]) A= .ok (.val (.int .u32 (j6 l:Nat)) A):=
 cr (c:=(qb4.body).getD .skip) (bH Tryz.func211) (by kernel_rfl) (by kernel_rfl) (h:=aK Mp) (by kernel_rfl) (by
  unfold aK;show(match Mp [.string ⟨⟨l⟩⟩] with|some v=>R.ok (v,A)|none=>.no 600)=_;simp only [Mp,if_pos hl])
theorem call17 {ih:Code→St→R (Ex×St)} (hn:n<4294967296):bA Qc ih (.fn 210 [.int .u32 n]) A= .ok (.val (aj (four n)) A):=
 cr (c:=(Tryz.f210.body).getD .skip) (bH Tryz.func210) (by kernel_rfl) (by kernel_rfl) (h:=aK AO) (by kernel_rfl) (by
  unfold aK;show(match AO [.int .u32 (.ofNat n)] with|some v=>R.ok (v,A)|none=>.no 600)=_;simp only [AO,if_pos hn])
theorem LF (l:List UInt8):j6 l<4294967296:=by unfold j6;omega
theorem jV (n:Nat):(four n).length=4:=rfl
def bP (l:List UInt8):List UInt8:=l++four (j6 l)
theorem FU (l:List UInt8) (hl:l.length<1000000):call Qc 30 161 [aj l] dZ= .ok (.val (aj (bP l)) dZ):=by
 have hs:=LF l;have hfl:=jV (j6 l);unfold call;simp only [show Qc.fn.get 161=some Tryz.f161 from bH Tryz.func161];simp only [Tryz.f161,mo,qaA,qaT];simp (disch:=first|decide+kernel|omega) only [Aq,qal,call12,call17,jV];rfl
def We (i:Nat):Nat:=(vq 4 (i,0)).1
def nz:List Value:=(qbN 16).map fun i=>.int .u32 (We i:Nat)
def jo:Value:=.agg ⟨nz⟩
variable {i:Nat}
theorem Qi (h:i<16):We i<4294967296:=(wm (p:=(i,0)) (by show i<_;omega) (by show 0<_;omega) 4).1
theorem Iz (h:i<16):nz[i]?=some (.int .u32 (We i:Nat)):=by
 unfold nz;rw [qaN,qcZ h];rfl
theorem tS:∃A,call Qc 30 262 [] dZ= .ok (.val jo A):=by
 have h:(match call Qc 30 262 [] dZ with| .ok (.val v _)=>cG 9 v jo|_=>false)=true:=by decide+kernel
 revert h;cases call Qc 30 262 [] dZ with
 |no _=>intro h;cases h
 |ok r=>
  cases r with
  |kx _ _=>intro h;cases h
  |val v A=>
   intro h;exact⟨A,by rw [j' _ _ _ h]⟩
def DG:List Value→Option Value
 | []=>some jo
 |_=>none
theorem HD:b9 Qc.P 262 (aK DG):=by
 refine dP IA (f:=262) (fn:=Tryz.f262) (bH Tryz.func262) (c:=(Tryz.f262.body).getD .skip) (by kernel_rfl) fun args v h=>?_
 unfold DG at h;split at h
 ·cases h;obtain⟨A,hr⟩:=tS;exact⟨by simp,by decide+kernel,30,A,hr⟩
 ·cases h
noncomputable def rh:bO:=Qc.qd 262 (aK DG)
theorem Qd:cC rh:=bV IA HD
theorem call20 {ih:Code→St→R (Ex×St)}:bA rh ih (.fn 262 []) A= .ok (.val jo A):=
 cr (c:=(Tryz.f262.body).getD .skip) (bH Tryz.func262) (by kernel_rfl) (by kernel_rfl) (h:=aK DG) (by kernel_rfl) rfl
theorem T5:rh.ba 9=some .string:=ov
theorem Qs:rh.ba 74=some (.slice 5):=DO
theorem Qo:rh.ba 59=some (.int .u32):=Qm
theorem T4:rh.ba 5=some (.int .u8):=mR
theorem Wn:rh.ba 358=some (.array 16 59):=by kernel_rfl
theorem VV:aR rh 59= .ok 1:=by kernel_rfl
theorem uU:aR rh 5= .ok 1:=by kernel_rfl
def xK (n h:Nat):Nat:=n>>>4^^^We (n % 256&&&15^^^h)
theorem D8 (n:Nat):n&&&15=n % 16:=Nat.and_two_pow_sub_one_eq_mod n 4
theorem Ol {h:Nat} (hh:h<16):(n % 256&&&15)^^^h<16:=qdE (n:=4) (by rw [D8];exact qbE _ (by omega)) hh
theorem xL {h:Nat} (hn:n<4294967296) (hh:h<16):xK n h<4294967296:=
 qdE (n:=32) (by rw [qbn];omega) (Qi (Ol hh))
noncomputable def um:Code:=qd1.body.getD .skip
noncomputable def IT:Code:=sub um [1,0,1,0,0]
theorem CA:qd1.body=some (.seq (sub um [0]) (.seq (.seq (sub um [1,0,0]) (.block 0 (.loop IT))) (.seq (sub um [1,1,0]) (sub um [1,1,1])))):=by kernel_rfl
variable {t:T Value}
theorem xM {bt h0 h1:Nat} (hn:n<4294967296) (hh0:h0<16) (hh1:h1<16) (hi:i<2) (hb:A.get b=some (aa 5 [.int .u8 (h0:Nat),.int .u8 (h1:Nat)])) (hbt:A.get bt=some (aa 358 nz))
 (g9:t.get 9=some (.slice (some ⟨b,0,none⟩) 2 4)) (g10:t.get 10=some (.int .i64 (2:Nat))) (g11:t.get 11=some (.int .i64 (i:Nat))) (g1:t.get 1=some (.int .u32 (n:Nat))) (g3:t.get 3=some (pw bt 0))
 {K:Ex→St→Prop} (hk:∀t':T Value,t'.get 9=some (.slice (some ⟨b,0,none⟩) 2 4)→t'.get 10=some (.int .i64 (2:Nat))→t'.get 11=some (.int .i64 (i+1:Nat))→t'.get 1=some (.int .u32 (xK n (if i=0 then h0 else h1):Nat))→t'.get 3=some (pw bt 0)→K .nrm ⟨t',27,[],A,none⟩):
 W rh IT ⟨t,27,[],A,none⟩ K:=by
 have hh:(if i=0 then h0 else h1)<16:=by split<;>assumption
 have hx:=Ol (n:=n) hh;have hl:ag rh A.get 5 (pw b (0+i))= .ok (bN (if i=0 then h0 else h1)):=by
  refine E9 T4 rfl hb ?_;rw [qa1];rcases(show i=0∨i=1 by omega) with rfl|rfl<;>rfl
 have hl2:ag rh A.get 59 (pw bt (0+(n % 256&&&15^^^(if i=0 then h0 else h1))))= .ok (.int .u32 (We (n % 256&&&15^^^(if i=0 then h0 else h1)):Nat)):=by
  refine E9 Qo rfl hbt ?_;rw [qa1];exact Iz hx
 have ht:=Qi hx;have hand:n % 256&&&15<256:=by rw [D8];omega
 have hsh:n>>>4<4294967296:=by rw [qbn];omega
 revert hh hx hl hl2 ht hk;generalize (if i=0 then h0 else h1)=h;intro hk hh hx hl hl2 ht;apply W.run 20
 ·intro m;simp (disch:=first|decide+kernel|omega) only [IT,um,qd1,Aq,qal,g9,g10,g11,g1,g3,hi,ma Qs uU,l_ Wn VV,hl,hl2,gi,Qo,T4];rfl
 ·apply hk
  all_goals simp only [T.aH,qal,if_true,if_false,g9,g10,g3]
  rfl
def Ms (n h0 h1:Nat):Nat:=xK (xK n h0) h1
theorem H4 {h0 h1:Nat} (hn:n<4294967296) (hh0:h0<16) (hh1:h1<16) (hb:A.get b=some (aa 5 [.int .u8 (h0:Nat),.int .u8 (h1:Nat)])) (hlt:b≠A.next):
 ∃g,∀m,bA rh (exec rh (m+g)) (.fn 263 [jo,.int .u32 (n:Nat),.slice (some ⟨b,0,none⟩) 2 4]) A= .ok (.val (.int .u32 (Ms n h0 h1:Nat)) (A.alloc (aa 358 nz))):=by
 have hb':(A.alloc (aa 358 nz)).get b=some (aa 5 [.int .u8 (h0:Nat),.int .u8 (h1:Nat)]):=by rw [aB hlt];exact hb
 obtain⟨v,A',⟨g,h1⟩,h2,h3⟩:∃v A',(∃g,∀m,bA rh (exec rh (m+g)) (.fn 263 [jo,.int .u32 (n:Nat),.slice (some ⟨b,0,none⟩) 2 4]) A= .ok (.val v A'))∧v= .int .u32 (Ms n h0 h1:Nat)∧A'=A.alloc (aa 358 nz):=by
  refine wZ (bH Tryz.func263) CA (by rw [Tryz.ntmps263];simp) (by kernel_rfl) (by kernel_rfl) ?_;apply W.seq;apply W.run 20
  ·intro m;simp (disch:=first|decide+kernel|omega) only [um,qd1,Aq,qal];rfl
  apply W.seq;apply W.seq;apply W.run 20
  ·intro m;simp (disch:=first|decide+kernel|omega) only [um,qd1,Aq,qal,eu Qs];rfl
  apply W.block;apply W.round;refine xM (b:=b) (bt:=A.next) (n:=n) (h0:=h0) (h1:=h1) (i:=0) hn hh0 hh1 (by omega) hb' (ax _ _) ?_ ?_ ?_ ?_ ?_ ?_
  ·simp only [T.aH,T.bI,T.cU,qal,qam,if_true,if_false]
  ·simp only [T.aH,T.bI,T.cU,qal,qam,if_true,if_false]
  ·simp only [T.aH,T.bI,T.cU,qal,qam,if_true,if_false]
  ·simp only [T.aH,T.bI,T.cU,qal,qam,if_true,if_false]
  ·simp only [T.aH,T.bI,T.cU,qal,qam,if_true,if_false]
  intro t g9 g10 g11 g1 g3;apply W.round;refine xM (b:=b) (bt:=A.next) (n:=xK n h0) (h0:=h0) (h1:=h1) (i:=1) (xL hn hh0) hh0 hh1 (by omega) hb' (ax _ _) g9 g10 g11 g1 g3 ?_;intro t g9 g10 g11 g1 g3;apply W.round;apply W.run 20
  ·intro m;simp (disch:=first|decide+kernel|omega) only [IT,um,qd1,Aq,qal,g9,g10,g11,g1,g3];rfl
  apply W.seq;apply W.run 20
  ·intro m;simp (disch:=first|decide+kernel|omega) only [um,qd1,Aq,qal,g1];rfl
  apply W.run 20
  ·intro m;simp (disch:=first|decide+kernel|omega) only [um,qd1,Aq,qal];rfl
  refine⟨.inr rfl,A.alloc (aa 358 nz),[.int .u32 (Ms n h0 h1:Nat)],rfl,?_,rfl,rfl⟩;simp only [qd1,eV,jk,T.aH,qal,if_true,if_false,fe,R.aw];rfl
 subst h2 h3;exact⟨g,h1⟩
def F8 (n:Nat) (c:UInt8):Nat:=Ms n (c.toNat&&&15) (c.toNat>>>4)
theorem TU (c:UInt8):c.toNat&&&15<16:=by rw [D8];exact qbE _ (by omega)
theorem TO (c:UInt8):c.toNat>>>4<16:=by have:=c.toNat_lt;rw [qbn];omega
theorem P7 (h:n<4294967296) (c:UInt8):F8 n c<4294967296:=xL (xL h (TU c)) (TO c)
def nW (n:Nat) (l:List UInt8):Nat:=l.foldl F8 n
theorem Fe (h:n<4294967296) (l:List UInt8):nW n l<4294967296:=by
 unfold nW
 induction l generalizing n with
 |nil=>exact h
 |cons c l ih=>exact ih (P7 h c)
theorem HQ (n:Nat) (l:List UInt8) (k:Nat) (h:k<l.length):nW n (l.take (k+1))=F8 (nW n (l.take k)) (l.getD k 0):=by
 unfold nW;rw [qaC h,qcR];simp [List.getD,qan h]
noncomputable def rI:Code:=qcX.body.getD .skip
noncomputable def uk:Code:=sub rI [1,1,1,0,1,0,0]
theorem Cw:qcX.body=some (.seq (sub rI [0]) (.seq (sub rI [1,0]) (.seq (sub rI [1,1,0]) (.seq (.seq (sub rI [1,1,1,0,0]) (.block 0 (.loop uk))) (.seq (sub rI [1,1,1,1,0]) (sub rI [1,1,1,1,1])))))):=by kernel_rfl
theorem Up (a b:Int):a6 rh 74 2 [(0,.int .u8 a),(1,.int .u8 b)]= .ok (aa 5 [.int .u8 a,.int .u8 b],.mO 2 4):=by kernel_rfl
theorem WE:bS rh 358= .ok (.agg ⟨qa7 16 (.int .u32 0)⟩):=by kernel_rfl
noncomputable def Lp:Mem:=
 match aW rh (dZ.alloc (aa 358 (qa7 16 (.int .u32 0)))) 358 (.pointer (some ⟨dZ.next,0,none⟩)) jo with
 | .ok A=>A
 |_=>dZ
theorem R8:aW rh (dZ.alloc (aa 358 (qa7 16 (.int .u32 0)))) 358 (pw dZ.next 0) jo= .ok Lp:=by kernel_rfl
theorem Lq:ag rh Lp.get 358 (.pointer (some ⟨0,0,none⟩))= .ok jo:=by
 have h:(match ag rh Lp.get 358 (.pointer (some ⟨0,0,none⟩)) with| .ok v=>cG 9 v jo|_=>false)=true:=by decide+kernel
 revert h;cases ag rh Lp.get 358 (.pointer (some ⟨0,0,none⟩)) with
 |no _=>intro h;cases h
 |ok v=>intro h;rw [j' _ _ _ h]
theorem Lr:Lp.next=1:=by kernel_rfl
def WX (l:List UInt8) (n0 k:Nat) (s:St):Prop:=
 s.n=31∧s.d=[]∧s.ro=none∧1≤s.m.next∧s.m.get 0=Lp.get 0∧s.t.get 1=some (aj l)∧s.t.get 5=some (.pointer (some ⟨0,0,none⟩))∧s.t.get 12=some (.int .i64 (l.length:Nat))∧
 s.t.get 13=some (.int .i64 (k:Nat))∧s.t.get 6=some (.int .u32 (nW n0 (l.take k):Nat))
theorem Vq {l:List UInt8} {n0:Nat} (hn:n0<4294967296) (hl:l.length<9223372036854775807) {s:St} {K:Ex→St→Prop} (h:WX l n0 0 s)
 (hk:∀(t:T Value) (A:Mem),t.get 6=some (.int .u32 (nW n0 l:Nat))→K (.exit 0) ⟨t,31,[],A,none⟩):W rh (.loop uk) s K:=by
 refine W.loop (fun s=>∃k,k≤l.length∧WX l n0 k s) (fun s=>l.length-(match s.t.get 13 with|some (.int _ i)=>i.toNat|_=>0)) ?_ ⟨0,by omega,h⟩;rintro⟨t,n,d,A,ro⟩ ⟨k,hk1,h01,h02,h03,hA,hA0,g1,g5,g12,g13,g6⟩;simp only at h01 h02 h03 hA hA0 g1 g5 g12 g13 g6;subst h01 h02 h03;have b3:=Fe hn (l.take k);have b5:=Ck (l.getD k 0);by_cases hlt:k<l.length
 ·have hl1:=TU (l.getD k 0);have hl2:=TO (l.getD k 0);have hne:A.next≠(A.alloc (aa 5 [.int .u8 ((l.getD k 0).toNat&&&15:Nat),.int .u8 ((l.getD k 0).toNat>>>4:Nat)])).next:=by rw [ae];omega
  obtain⟨g,hby⟩:=H4 (A:=A.alloc (aa 5 [.int .u8 ((l.getD k 0).toNat&&&15:Nat),.int .u8 ((l.getD k 0).toNat>>>4:Nat)])) (b:=A.next) b3 hl1 hl2 (ax _ _) hne;have hld:ag rh A.get 358 (pw 0 0)= .ok jo:=by rw [Lo hA0];exact Lq
  apply W.run (g+20)
  ·intro m;have hby':∀j,bA rh (exec rh ((m+g)+j)) (.fn 263 [jo,.int .u32 (nW n0 (l.take k):Nat),.slice (some ⟨A.next,0,none⟩) 2 4]) (A.alloc (aa 5 [.int .u8 ((l.getD k 0).toNat&&&15:Nat),.int .u8 ((l.getD k 0).toNat>>>4:Nat)]))= .ok (.val (.int .u32 (Ms (nW n0 (l.take k)) ((l.getD k 0).toNat&&&15) ((l.getD k 0).toNat>>>4):Nat)) ((A.alloc (aa 5 [.int .u8 ((l.getD k 0).toNat&&&15:Nat),.int .u8 ((l.getD k 0).toNat>>>4:Nat)])).alloc (aa 358 nz))):=
    fun j=>by rw [show m+g+j=(m+j)+g by omega];exact hby (m+j)
   rw [←qck];revert hby';generalize m+g=M;intro hby';simp (disch:=first|decide+kernel|omega) only [uk,rI,qcX,Aq,qal,g1,g5,g6,g12,g13,hlt,dQ T5,Up,hld,hby'];rfl
  ·refine⟨⟨k+1,by omega,rfl,rfl,rfl,?_,?_,?_,?_,?_,?_,?_⟩,?_⟩
   ·simp only [ae];omega
   ·rw [aB (by rw [ae];omega),aB (by omega)];exact hA0
   ·simp only [T.aH,qal,if_true,if_false,g1]
   ·simp only [T.aH,qal,if_true,if_false,g5]
   ·simp only [T.aH,qal,if_true,if_false,g12]
   ·simp only [T.aH,qal,if_true,if_false]
   ·simp only [T.aH,qal,if_true,if_false,HQ _ _ _ hlt];rfl
   ·simp only [T.aH,qal,if_true,if_false,g13,qdj];exact qec (by omega) (qbP _)
 ·have hkl:k=l.length:=by omega
  subst hkl;rw [qaR] at g6;apply W.run 20
  ·intro m;simp (disch:=first|decide+kernel|omega) only [uk,rI,qcX,Aq,qal,g12,g13];rfl
  refine hk _ _ ?_;simp only [T.aH,qal,if_true,if_false,g6]
def rW (n:Nat) (l:List UInt8):Nat:=4294967295-nW (4294967295-n) l
theorem Pz (n:Nat) (l:List UInt8) (hn:n<4294967296) (hl:l.length<9223372036854775807):∃A,jt rh 227 [.int .u32 (n:Nat),aj l] dZ (.int .u32 (rW n l:Nat)) A:=by
 have b:=Fe (n:=4294967295-n) (by omega) l;obtain⟨v,A',h1,h2⟩:∃v A',jt rh 227 [.int .u32 (n:Nat),aj l] dZ v A'∧v= .int .u32 (rW n l:Nat):=by
  refine tu (bH Tryz.func227) Cw (by rw [Tryz.ntmps227];simp) ?_;apply W.seq;apply W.run 20
  ·intro m;simp (disch:=first|decide+kernel|omega) only [rI,qcX,Aq,qal];rfl
  apply W.seq;apply W.run 20
  ·intro m;simp (disch:=first|decide+kernel|omega) only [rI,qcX,Aq,qal,call20,WE,Value.cells,R8];rfl
  apply W.seq;apply W.run 20
  ·intro m;simp (disch:=first|decide+kernel|omega) only [rI,qcX,Aq,qal];rfl
  apply W.seq;apply W.seq;apply W.run 20
  ·intro m;simp (disch:=first|decide+kernel|omega) only [rI,qcX,Aq,qal,cP T5];rfl
  apply W.block;refine Vq (l:=l) (n0:=4294967295-n) (by omega) hl ⟨rfl,rfl,rfl,by rw [Lr];omega,rfl,?_,?_,?_,?_,?_⟩ ?_
  ·simp only [T.aH,T.bI,T.cU,qal,qam,if_true,if_false]
  ·simp only [T.aH,T.bI,T.cU,qal,qam,if_true,if_false];rfl
  ·simp only [T.aH,T.bI,T.cU,qal,qam,if_true,if_false]
  ·simp only [T.aH,T.bI,T.cU,qal,qam,if_true,if_false]
  ·simp only [T.aH,T.bI,T.cU,qal,qam,if_true,if_false];rfl
  intro t A g6;apply W.seq;apply W.run 20
  ·intro m;simp (disch:=first|decide+kernel|omega) only [rI,qcX,Aq,qal,g6];rfl
  apply W.run 20
  ·intro m;simp (disch:=first|decide+kernel|omega) only [rI,qcX,Aq,qal];rfl
  refine⟨.inr rfl,A,[.int .u32 (rW n l:Nat)],rfl,?_,rfl⟩;simp only [qcX,eV,jk,T.aH,qal,if_true,if_false,fe,R.aw];rfl
 subst h2;exact⟨A',h1⟩
def A8:List Value→Option Value
 | [.int .u32 (.ofNat n),.string s]=>if n<4294967296∧s.data.toList.length<1000000 then some (.int .u32 (rW n s.data.toList:Nat)) else none
 |_=>none
theorem Lc:b9 rh.P 227 (aK A8):=by
 refine dP Qd (f:=227) (fn:=qcX) (bH Tryz.func227) Cw fun args v h=>?_
 unfold A8 at h;split at h
 ·rename_i n s;split at h
  ·rename_i hn;cases h;obtain⟨A,k,hr⟩:=Pz n s.data.toList hn.1 (by omega);exact⟨by simp [flat],by simp [flat],k,A,hr⟩
  ·cases h
 ·cases h
noncomputable def WO:bO:=rh.qd 227 (aK A8)
theorem Qe:cC WO:=bV Qd Lc
theorem call14 {ih:Code→St→R (Ex×St)} {l:List UInt8} (hn:n<4294967296) (hl:l.length<1000000):bA WO ih (.fn 227 [.int .u32 n,aj l]) A= .ok (.val (.int .u32 (rW n l:Nat)) A):=
 cr (c:=(qcX.body).getD .skip) (bH Tryz.func227) (by kernel_rfl) (by kernel_rfl) (h:=aK A8) (by kernel_rfl) (by
  unfold aK;show(match A8 [.int .u32 (.ofNat n),.string ⟨⟨l⟩⟩] with|some v=>R.ok (v,A)|none=>.no 600)=_;simp only [A8,if_pos (And.intro hn hl)])
def Ix (l:List UInt8):Nat:=rW 0 l
theorem OP (n:Nat) (l:List UInt8):rW n l<4294967296:=by unfold rW;omega
theorem SY (l:List UInt8) (hl:l.length<1000000):call WO 30 179 [aj l] dZ= .ok (.val (.int .u32 (Ix l:Nat)) dZ):=by
 unfold call;simp only [show WO.fn.get 179=some Tryz.f179 from bH Tryz.func179];simp only [Tryz.f179,mo,qaA,qaT];simp (disch:=first|decide+kernel|omega) only [Aq,qal,call14];rfl
def BP:List Value→Option Value
 | [.string s]=>if s.data.toList.length<1000000 then some (.int .u32 (Ix s.data.toList:Nat)) else none
 |_=>none
theorem Lf:b9 WO.P 179 (aK BP):=by
 refine dP Qe (f:=179) (fn:=Tryz.f179) (bH Tryz.func179) (c:=(Tryz.f179.body).getD .skip) (by kernel_rfl) fun args v h=>?_
 unfold BP at h;split at h
 ·rename_i s;split at h
  ·rename_i hn;cases h;exact⟨by simp [flat],by simp [flat],30,_,SY s.data.toList hn⟩
  ·cases h
 ·cases h
noncomputable def DZ:bO:=WO.qd 179 (aK BP)
theorem Qf:cC DZ:=bV Qe Lf
theorem call11 {ih:Code→St→R (Ex×St)} {l:List UInt8} (hl:l.length<1000000):bA DZ ih (.fn 179 [aj l]) A= .ok (.val (.int .u32 (Ix l:Nat)) A):=
 cr (c:=(Tryz.f179.body).getD .skip) (bH Tryz.func179) (by kernel_rfl) (by kernel_rfl) (h:=aK BP) (by kernel_rfl) (by
  unfold aK;show(match BP [.string ⟨⟨l⟩⟩] with|some v=>R.ok (v,A)|none=>.no 600)=_;simp only [BP,if_pos hl])
theorem Kk:DZ.ba 9=some .string:=ov
theorem t_:DZ.ba 74=some (.slice 5):=DO
theorem Wk:DZ.ba 59=some (.int .u32):=Qm
theorem Qv:DZ.ba 5=some (.int .u8):=mR
theorem Y5:cm DZ 5= .ok (1,[.int .u8 0]):=by kernel_rfl
theorem Y3:∃i,DZ.ty.get 5=some i∧i.bytes=1:=by
 have h:(DZ.ty.get 5).map (·.bytes)=some 1:=by kernel_rfl
 cases hq:DZ.ty.get 5 with
 |none=>rw [hq] at h;cases h
 |some i=>rw [hq] at h;exact⟨i,rfl,by simpa using h⟩
theorem TE (a:Int):a6 DZ 74 1 [(0,.int .u8 a)]= .ok (aa 5 [.int .u8 a],.mO 1 2):=by kernel_rfl
def aG (n k:Nat):UInt8:=.ofNat (n>>>(8*k) % 256)
theorem RJ (h:n<4294967296):four n=(qbN 4).map (aG n):=by
 show _=[aG n 0,aG n 1,aG n 2,aG n 3];unfold four aG;simp only [qbn];have e:n/2^(8*3) % 256=n/16777216:=by
  show n/16777216 % 256=_;omega
 rw [e];simp
noncomputable def GK:Code:=qcz.body.getD .skip
noncomputable def IS:Code:=sub GK [1,1,1,0,1,0,0]
theorem Nf:qcz.body=some (.seq (sub GK [0]) (.seq (sub GK [1,0]) (.seq (sub GK [1,1,0]) (.seq (.seq (sub GK [1,1,1,0,0]) (.block 0 (.loop IS))) (.seq (sub GK [1,1,1,1,0]) (sub GK [1,1,1,1,1])))))):=by kernel_rfl
def Ty (l:List UInt8) (n k:Nat) (s:St):Prop:=
 s.n=24∧s.d=[]∧s.ro=none∧∃b,b<s.m.next∧Bytes s.m b 5 .mark (l++((qbN k).map (aG n)))∧s.t.get 3=some (.slice (some ⟨b,0,none⟩) (l.length+k) (fQ (l.length+k) 1))∧s.t.get 4=some (.int .u32 (n:Nat))∧s.t.get 10=some (.int .i64 (k:Nat))
theorem SZ {l:List UInt8} (hn:n<4294967296) (hl:l.length<1000000) {s:St} {K:Ex→St→Prop} (h:Ty l n 0 s)
 (hk:∀(t:T Value) (A:Mem) (b:Nat),Bytes A b 5 .mark (l++four n)→t.get 3=some (.slice (some ⟨b,0,none⟩) (l++four n).length (fQ (l.length+4) 1))→K (.exit 0) ⟨t,24,[],A,none⟩):W DZ (.loop IS) s K:=by
 refine W.loop (fun s=>∃k,k≤4∧Ty l n k s) (fun s=>4-(match s.t.get 10 with|some (.int _ i)=>i.toNat|_=>0)) ?_ ⟨0,by omega,h⟩;rintro⟨t,nn,d,A,ro⟩ ⟨k,hk1,h01,h02,h03,b,hbn,hbb,g3,g4,g10⟩;simp only at h01 h02 h03 hbn hbb g3 g4 g10;subst h01 h02 h03;by_cases hlt:k<4
 ·have h8:8*k<32:=by omega
  have hv:n>>>(8*k) % 256<256:=qbE _ (by omega);have hlen:(l++(qbN k).map (aG n)).length=l.length+k:=by simp
  obtain⟨i,hi,hib⟩:=Y3;have hbb1:Bytes (A.alloc (aa 5 [.int .u8 (n>>>(8*k) % 256:Nat)])) b 5 .mark (l++(qbN k).map (aG n)):=by
   unfold Bytes;rw [aB (by omega)];exact hbb
  have happ:=D9 (tb:=DZ) (A:=A.alloc (aa 5 [.int .u8 (n>>>(8*k) % 256:Nat)])) (b:=b) (b2:=A.next) (v:=n>>>(8*k) % 256) t_ t_ Y5 hi hib (by omega) (.inl rfl) hbb1 (ax _ _) hv;rw [hlen] at happ;have hbl:gJ DZ (A.alloc (aa 5 [.int .u8 (n>>>(8*k) % 256:Nat)])) .append [74,74] [.slice (some ⟨b,0,none⟩) (l.length+k) (fQ (l.length+k) 1),.slice (some ⟨A.next,0,none⟩) 1 2]=_:=happ;apply W.run 20
  ·intro m;simp (disch:=first|decide+kernel|omega) only [IS,GK,qcz,Aq,qal,g3,g4,g10,hlt,TE,gi,Wk,Qv,happ];rfl
  ·refine⟨⟨k+1,by omega,rfl,rfl,rfl,(A.alloc (aa 5 [.int .u8 (n>>>(8*k) % 256:Nat)])).next,?_,?_,?_,?_,?_⟩,?_⟩
   rotate_left 2
   ·simp only [T.aH,qal,if_true,if_false];rfl
   ·simp only [T.aH,qal,if_true,if_false,g4]
   ·simp only [T.aH,qal,if_true,if_false]
   ·simp only [T.aH,qal,if_true,if_false,g10,qdj];exact qec (by omega) (qbP _)
   ·simp only [ae,aO];omega
   ·unfold Bytes;have e:(A.alloc (aa 5 [.int .u8 (n>>>(8*k) % 256:Nat)])).next=((A.alloc (aa 5 [.int .u8 (n>>>(8*k) % 256:Nat)])).set b .dead).next:=by rw [aO]
    simp only [];have e2:l++qew (aG n) (qbN (k+1))=l++qew (aG n) (qbN k)++[qbD (n>>>(8*k) % 256)]:=by
     rw [List.range_succ,qbe,qbh];rfl
    rw [e,ax,e2]
 ·have hk4:k=4:=by omega
  subst hk4;rw [←RJ hn] at hbb;apply W.run 20
  ·intro m;simp (disch:=first|decide+kernel|omega) only [IS,GK,qcz,Aq,qal,g10];rfl
  refine hk _ _ b hbb ?_;simp only [T.aH,qal,if_true,if_false,g3,qar,jV]
def sw (l:List UInt8):List UInt8:=l++four (Ix l)
theorem PF (l:List UInt8) (hl:l.length<900000):∃A,jt DZ 123 [aj l] dZ (aj (sw l)) A:=by
 have b:=OP 0 l;obtain⟨v,A',h1,h2⟩:∃v A',jt DZ 123 [aj l] dZ v A'∧v=aj (sw l):=by
  refine tu (bH Tryz.func123) Nf (by rw [Tryz.ntmps123];simp) ?_;apply W.seq;apply W.run 20
  ·intro m;simp (disch:=first|decide+kernel|omega) only [GK,qcz,Aq,qal];rfl
  apply W.seq;apply W.run 20
  ·intro m;simp (disch:=first|decide+kernel|omega) only [GK,qcz,Aq,qal,zY _ _ _ _ _ _ _ _ _ _ Kk t_,Co Kk t_ Qv];rfl
  apply W.seq;apply W.run 20
  ·intro m;simp (disch:=first|decide+kernel|omega) only [GK,qcz,Aq,qal,call11];rfl
  apply W.seq;apply W.seq;apply W.run 20
  ·intro m;simp (disch:=first|decide+kernel|omega) only [GK,qcz,Aq,qal];rfl
  apply W.block;refine SZ (l:=l) (n:=Ix l) b (by omega) ⟨rfl,rfl,rfl,dZ.next,by simp only [ae];omega,?_,?_,?_,?_⟩ ?_
  ·unfold Bytes;simp only [ax,List.range_zero,qcp,qbt]
  ·simp only [T.aH,T.bI,T.cU,qal,qam,if_true,if_false,qa8]
  ·simp only [T.aH,T.bI,T.cU,qal,qam,if_true,if_false]
  ·simp only [T.aH,T.bI,T.cU,qal,qam,if_true,if_false]
  intro t A b hb g3;apply W.seq;apply W.run 20
  ·intro m;simp (disch:=first|decide+kernel|omega) only [GK,qcz,Aq,qal,g3,lL _ _ _ _ _ _ _ _ _ _ t_ Kk,sV t_ Kk Qv hb];rfl
  apply W.run 20
  ·intro m;simp (disch:=first|decide+kernel|omega) only [GK,qcz,Aq,qal];rfl
  refine⟨.inr rfl,A,[aj (sw l)],rfl,?_,rfl⟩;simp only [qcz,eV,jk,T.aH,qal,if_true,if_false,fe,R.aw];rfl
 subst h2;exact⟨A',h1⟩
def sr:List Value→Option Value
 | [.string s]=>if s.data.toList.length<900000 then some (aj (sw s.data.toList)) else none
 |_=>none
theorem tH:b9 DZ.P 123 (aK sr):=by
 refine dP Qf (f:=123) (fn:=qcz) (bH Tryz.func123) Nf fun args v h=>?_
 unfold sr at h;split at h
 ·rename_i s;split at h
  ·rename_i hn;cases h;obtain⟨A,k,hr⟩:=PF s.data.toList hn;exact⟨by simp [flat],by simp [flat,aj],k,A,hr⟩
  ·cases h
 ·cases h
noncomputable def WQ:bO:=DZ.qd 123 (aK sr)
theorem Wb:cC WQ:=bV Qf tH
theorem Ge:WQ.ba 9=some .string:=ov
theorem call13 {ih:Code→St→R (Ex×St)} {l:List UInt8} (hl:l.length<900000):bA WQ ih (.fn 123 [aj l]) A= .ok (.val (aj (sw l)) A):=
 cr (c:=(qcz.body).getD .skip) (bH Tryz.func123) (by kernel_rfl) (by kernel_rfl) (h:=aK sr) (by kernel_rfl) (by
  unfold aK;show(match sr [.string ⟨⟨l⟩⟩] with|some v=>R.ok (v,A)|none=>.no 600)=_;simp only [sr,if_pos hl])
def lM (l:List UInt8):List UInt8×Bool:=
 if l.length<4 then([],false) else if sw (l.take (l.length-4))≠l then([],false) else(l.take (l.length-4),true)
theorem sm (l:List UInt8) (hl:l.length<900000):call WQ 30 138 [aj l] dZ= .ok (.val (.tuple ⟨[aj (lM l).1,.bool (lM l).2]⟩) dZ):=by
 have ht:(l.take (l.length-4)).length<900000:=by rw [qaE];omega
 unfold call;simp only [show WQ.fn.get 138=some Tryz.f138 from bH Tryz.func138];simp only [Tryz.f138,mo,qaA,qaT];by_cases h4:l.length<4
 ·simp (disch:=first|omega|decide+kernel|(simp only [uX,zu,xq,xp,T.aH,T.lj,qal,if_true,if_false,zw,zx,bL,cond_true,cond_false,qcj,qc1,List.toList_toArray])) only [qaq,cond_true,cond_false,T.bI,T.cU,rO,jQ,rX,uw,pE,AH,ED,AG,qQ,uM,yN,Fo,yf,JI,JM,JK,OZ,Bc,qt,qs,Bb,Ba,Be,uI,Fp,Fm,A_,JJ,oW,qu,Bf,Fl,JL,yh,uH,Fk,O',jk,fe,NN,I7,NP,pC,Hr,EC,R.aw,Bn,Bm,T.aH,T.lj,Ec,Dk,yq,yz,O1,O0,HW,yi,yx,Bg,Bh,yo,rB,uj,yn,yp,yl,ui,pn,uf,OO,De,Er,qdh,qdD,if_true,if_false,reduceIte,qal,qam,ne_eq,not_true_eq_false,not_false_eq_true,decide_true,decide_false,qaI,qcj,qc1,Kf,F',Ga,BM,BN,BL,F_,BO,zi,zj,qbG,M0,wK,yO,Bv,AF,yu,yw,ym,Ee,sU,Kc,Kb,eW,eV,oneOf,JN,xr,cP Ge,h4];simp [lM,h4]
 ·have h4':4≤l.length:=by omega
  by_cases he:sw (l.take (l.length-4))=l
  ·simp (disch:=first|decide+kernel|omega|simp only [Wq,qal]) only [Aq,qaq,reduceIte,qal,qam,cP Ge,mP Ge,call13,he];simp [lM,h4,he]
  ·simp (disch:=first|decide+kernel|omega|simp only [Wq,qal]) only [Aq,qaq,reduceIte,qal,qam,cP Ge,mP Ge,call13,he];simp [lM,h4,he]
end Go.Proofs.YtjoceidiioppiaaGreatDoor.crc
namespace Go.Proofs.YtjoceidiioppiaaGreatDoor.crc
theorem Gk (a b:Nat):(a^^^b) % 2=(a % 2+b % 2) % 2:=by
 have h:(a^^^b) % 2^1=a % 2^1^^^b % 2^1:=Nat.xor_mod_two_pow;rw [show(2:Nat)^1=2 by rfl] at h;rw [h];rcases qct a with ha|ha<;>rcases qct b with hb|hb<;>rw [ha,hb]<;>rfl
def ke (n:Nat):Nat:=n/2^^^(if n % 2=1 then 3988292384 else 0)
def db:Nat→Nat→Nat
 |0,n=>n
 |k+1,n=>db k (ke n)
theorem tX (a b:Nat):ke (a^^^b)=ke a^^^ke b:=by
 unfold ke;have h1:(a^^^b)/2=a/2^^^b/2:=Nat.xor_div_two;have h2:(a^^^b) % 2=(a % 2+b % 2) % 2:=Gk _ _;rw [h1,h2];rcases qct a with ha|ha<;>rcases qct b with hb|hb<;>rw [ha,hb]
 ·simp
 ·simp [qcU]
 ·simp only [qam,Nat.reduceMod,if_true,Nat.zero_ne_one,if_false,qeI];rw [qcU,qcU,Nat.xor_comm (b/2)]
 ·simp only [qam,Nat.reduceMod,if_true,Nat.zero_ne_one,if_false,qeI];rw [qcU,←qcU 3988292384,Nat.xor_comm 3988292384 (b/2),qcU (b/2),Nat.xor_self,qeI]
theorem kh:∀(k a b:Nat),db k (a^^^b)=db k a^^^db k b
 |0,_,_=>rfl
 |k+1,a,b=>by
  show db k (ke (a^^^b))=_;rw [tX,kh k];rfl
theorem DF (n:Nat):ke (2*n)=n:=by
 unfold ke;rw [if_neg (by omega),qeI];omega
theorem jB:∀(k n:Nat),db k (2^k*n)=n
 |0,n=>by show 2^0*n=n;omega
 |k+1,n=>by
  show db k (ke (2^(k+1)*n))=n;rw [show 2^(k+1)*n=2*(2^k*n) by rw [qdW];ac_rfl,DF,jB k]
theorem rf:∀(j k n:Nat),db (j+k) n=db k (db j n)
 |0,k,n=>by rw [qa1];rfl
 |j+1,k,n=>by
  rw [show j+1+k=(j+k)+1 by omega];show db (j+k) (ke n)=db k (db j (ke n));exact rf j k _
theorem QP (n b:Nat) (hb:b<2):Cg n b=ke (n^^^b):=by
 unfold Cg ke;have h1:(n^^^b)/2=n/2:=by rw [Nat.xor_div_two,show b/2=0 by omega,qeI]
 have h2:(n^^^b) % 2=(n % 2+b % 2) % 2:=Gk _ _;rw [h1,h2];rcases qct n with hn|hn<;>rcases(show b=0∨b=1 by omega) with rfl|rfl<;>rw [hn]<;>simp
theorem JU:∀(k n c:Nat),vq k (n,c)=(db k (n^^^(c % 2^k)),c/2^k):=by
 intro k;have main:∀(k n c:Nat),vq k (n,c)=(db k n^^^db k (c % 2^k),c/2^k):=by
  intro k
  induction k with
  |zero=>intro n c;simp [vq,db,Nat.mod_one]
  |succ k ih=>
   intro n c;show ZD (vq k (n,c))=_;rw [ih];unfold ZD;simp only [];have hb:c/2^k % 2<2:=qbE _ (by omega);rw [QP _ _ hb];have e1:∀x,ke (db k x)=db (k+1) x:=fun x=>by
    have:=rf k 1 x;rw [this];rfl
   have e2:c % 2^(k+1)=(c % 2^k)^^^(2^k*(c/2^k % 2)):=by
    apply Nat.eq_of_testBit_eq;intro i;rw [Nat.testBit_xor,Nat.testBit_mod_two_pow,Nat.testBit_mod_two_pow,Nat.testBit_two_pow_mul];rcases qcT i k with h|h|h
    ·simp [h,show i<k+1 by omega,show¬k≤i by omega]
    ·subst h;simp [Nat.testBit_eq_decide_div_mod_eq]
    ·have:(c/2^k % 2).testBit (i-k)=false:=by
      apply Nat.testBit_lt_two_pow
      calc c/2^k % 2<2:=hb
       _=2^1:=rfl
       _≤2^(i-k):=qbz (by omega) (by omega)
     simp [this,show¬i<k by omega,show¬i<k+1 by omega]
   have e3:ke (c/2^k % 2)=db (k+1) (2^k*(c/2^k % 2)):=by
    rw [←e1,jB]
   rw [tX,tX,e1,e1,e3,e2,kh,qcU,qdW,Nat.div_div_eq_div_mul]
 intro n c;rw [main,kh]
theorem Wf (i:Nat):We i=db 4 i:=by
 unfold We;rw [JU];simp
theorem zA (n h:Nat):n^^^h=(16*(n/16))^^^(n % 16^^^h):=by
 rw [←qcU];congr 1;apply Nat.eq_of_testBit_eq;intro i;rw [Nat.testBit_xor,show(16:Nat)=2^4 by rfl,Nat.testBit_two_pow_mul,Nat.testBit_mod_two_pow,Nat.testBit_div_two_pow];rcases qaZ i 4 with h|h
 ·simp [h,show¬4≤i by omega]
 ·simp [h,show¬i<4 by omega,show i-4+4=i by omega]
theorem EO (n h:Nat):xK n h=db 4 (n^^^h):=by
 have e:db 4 (n^^^h)=n/16^^^db 4 (n % 16^^^h):=by
  rw [zA n h,kh,show(16:Nat)*(n/16)=2^4*(n/16) by rfl,jB]
 rw [e];unfold xK;rw [Wf,D8,show n % 256 % 16=n % 16 by omega,qbn]
theorem M_ (n:Nat) (c:UInt8):Aj n c.toNat=db 8 (n^^^c.toNat):=by
 unfold Aj;rw [JU];show db 8 (n^^^c.toNat % 256)=_;rw [qbL c.toNat_lt]
theorem P6 (n:Nat) (c:UInt8):F8 n c=db 8 (n^^^c.toNat):=by
 unfold F8 Ms;rw [EO,EO,D8,show(8:Nat)=4+4 by rfl,rf];congr 1;have hc:c.toNat=(16*(c.toNat/16))^^^(c.toNat % 16):=by
  have:=zA c.toNat 0;simpa using this
 have e:n^^^c.toNat=(n^^^c.toNat % 16)^^^(2^4*(c.toNat/16)):=by
  rw [qcU,Nat.xor_comm (c.toNat % 16)];exact congrArg (n^^^·) hc
 have e2:db 4 (n^^^c.toNat)=db 4 (n^^^c.toNat % 16)^^^c.toNat/16:=by
  rw [e,kh 4 (n^^^c.toNat % 16),jB]
 rw [e2,qbn]
theorem OQ (n:Nat) (l:List UInt8):nW n l=zk n l:=by
 unfold nW zk
 induction l generalizing n with
 |nil=>rfl
 |cons c l ih=>simp only [qbu];rw [P6,←M_];exact ih _
theorem Tf (l:List UInt8):Ix l=j6 l:=by
 unfold Ix rW j6;rw [OQ]
theorem F3 (l:List UInt8):sw l=bP l:=by unfold sw bP;rw [Tf]
theorem HX (l:List UInt8):lM (bP l)=(l,true):=by
 have hl:(bP l).length=l.length+4:=by unfold bP;rw [qar,jV]
 have ht:(bP l).take ((bP l).length-4)=l:=by rw [hl];unfold bP;simp
 unfold lM;rw [if_neg (by omega),ht,F3,if_neg (by simp)]
end Go.Proofs.YtjoceidiioppiaaGreatDoor.crc
namespace Go.Proofs.YtjoceidiioppiaaGreatDoor.crc
open Go.Am
def Fs:List Value→Option Value
 | [.string s]=>if s.data.toList.length<900000 then some (.tuple ⟨[aj (lM s.data.toList).1,.bool (lM s.data.toList).2]⟩) else none
 |_=>none
def H2:List Value→Option Value
 | [.string s]=>if s.data.toList.length<900000 then some (aj (bP s.data.toList)) else none
 |_=>none
theorem AU:b9 WQ.P 138 (aK Fs):=by
 refine dP Wb (f:=138) (fn:=Tryz.f138) (bH Tryz.func138) (c:=(Tryz.f138.body).getD .skip) (by kernel_rfl) fun args v h=>?_
 unfold Fs at h;split at h
 ·rename_i s;split at h
  ·rename_i hn;cases h;exact⟨by simp [flat],by simp [flat,aj],30,_,sm s.data.toList hn⟩
  ·cases h
 ·cases h
theorem HC:b9 Qc.P 161 (aK H2):=by
 refine dP IA (f:=161) (fn:=Tryz.f161) (bH Tryz.func161) (c:=(Tryz.f161.body).getD .skip) (by kernel_rfl) fun args v h=>?_
 unfold H2 at h;split at h
 ·rename_i s;split at h
  ·rename_i hn;cases h;exact⟨by simp [flat],by simp [flat,aj],30,_,FU s.data.toList (by omega)⟩
  ·cases h
 ·cases h
end Go.Proofs.YtjoceidiioppiaaGreatDoor.crc
namespace Go.Proofs.YtjoceidiioppiaaGreatDoor.sto
open Go.Am Go.Shelf
def HH:Go.Shelf.Ren:=⟨fun|10=>183|n=>n,fun|33=>216|23=>199|0=>0|4=>4|26=>9|3=>3|n=>n,fun|n=>n⟩
theorem Vf:Go.Proofs.SlLaysZ.n10 qba HH:={
 mixed:=by kernel_rfl
 f10:=⟨Tryz.f183.name,by decide,Tryz.func183.trans (congrArg some (by kernel_rfl))⟩
 t0:=Tryz.underlying0
 a0:=Tryz.isAgg0
 z0:=Tryz.sizeOf0
 v0:=Tryz.zeroValue0
 t4:=qeA
 a4:=Tryz.isAgg4
 z4:=Tryz.sizeOf4
 v4:=Tryz.zeroValue4
 t23:=Tryz.underlying199
 a23:=Tryz.isAgg199
 z23:=Tryz.sizeOf199
 v23:=Tryz.zeroValue199
 t26:=qd7
 a26:=Tryz.isAgg9
 z26:=Tryz.sizeOf9
 v26:=qeK
 t33:=Tryz.underlying216
 a33:=Tryz.isAgg216
 z33:=Tryz.sizeOf216
 v33:=Tryz.zeroValue216}
def uV:Go.Shelf.Ren:=⟨fun|6=>126|8=>181|9=>182|11=>228|13=>230|12=>229|23=>273|24=>261|14=>264|15=>265|16=>266|17=>267|18=>268|19=>269|20=>270|21=>271|22=>272|25=>282|26=>283|27=>284|28=>285|29=>286|30=>259|31=>293|n=>n,fun|26=>9|28=>208|24=>91|0=>0|3=>3|37=>321|48=>59|50=>113|4=>4|40=>363|39=>362|45=>122|5=>5|9=>9|51=>378|55=>381|57=>387|58=>264|33=>216|n=>n,fun|n=>n⟩
theorem Tb:Go.Proofs.SlLaysZ.n6 qba uV:={
 mixed:=by kernel_rfl
 f6:=⟨Tryz.f126.name,by decide,Tryz.func126.trans (congrArg some (by kernel_rfl))⟩
 f8:=⟨Tryz.f181.name,by decide,Tryz.func181.trans (congrArg some (by kernel_rfl))⟩
 f11:=⟨Tryz.f228.name,by decide,Tryz.func228.trans (congrArg some (by kernel_rfl))⟩
 t0:=Tryz.underlying0
 a0:=Tryz.isAgg0
 z0:=Tryz.sizeOf0
 v0:=Tryz.zeroValue0
 t24:=Tryz.underlying91
 a24:=Tryz.isAgg91
 z24:=Tryz.sizeOf91
 v24:=Tryz.zeroValue91
 t26:=qd7
 a26:=Tryz.isAgg9
 z26:=Tryz.sizeOf9
 v26:=qeK
 t28:=Tryz.underlying208
 a28:=Tryz.isAgg208
 z28:=Tryz.sizeOf208
 v28:=Tryz.zeroValue208
 i26:=by kernel_rfl}
def Mm:Go.Shelf.Ren:=⟨fun|6=>182|8=>230|9=>229|19=>273|20=>261|21=>264|22=>265|23=>266|24=>267|25=>268|26=>269|27=>270|28=>271|29=>272|36=>282|31=>283|32=>284|37=>285|38=>286|39=>259|41=>293|n=>n,fun|27=>91|29=>9|3=>3|32=>321|26=>91|0=>0|44=>59|46=>113|4=>4|36=>363|35=>362|41=>122|5=>5|9=>9|53=>378|57=>381|63=>387|64=>264|n=>n,fun|n=>n⟩
theorem TW:Go.Proofs.SlLaysM.n6 qba Mm:={
 mixed:=by kernel_rfl
 f6:=⟨Tryz.f182.name,by decide,Tryz.func182.trans (congrArg some (by kernel_rfl))⟩
 f8:=Tryz.func230.trans (congrArg some (by kernel_rfl))
 f9:=⟨Tryz.f229.name,by decide,Tryz.func229.trans (congrArg some (by kernel_rfl))⟩
 f19:=Tryz.func273.trans (congrArg some (by kernel_rfl))
 f20:=Tryz.func261.trans (congrArg some (by kernel_rfl))
 f21:=⟨Tryz.f264.name,by decide,Tryz.func264.trans (congrArg some (by kernel_rfl))⟩
 f22:=⟨Tryz.f265.name,by decide,Tryz.func265.trans (congrArg some (by kernel_rfl))⟩
 f23:=⟨Tryz.f266.name,by decide,Tryz.func266.trans (congrArg some (by kernel_rfl))⟩
 f24:=⟨Tryz.f267.name,by decide,Tryz.func267.trans (congrArg some (by kernel_rfl))⟩
 f25:=⟨Tryz.f268.name,by decide,Tryz.func268.trans (congrArg some (by kernel_rfl))⟩
 f26:=⟨Tryz.f269.name,by decide,Tryz.func269.trans (congrArg some (by kernel_rfl))⟩
 f27:=⟨Tryz.f270.name,by decide,Tryz.func270.trans (congrArg some (by kernel_rfl))⟩
 f28:=⟨Tryz.f271.name,by decide,Tryz.func271.trans (congrArg some (by kernel_rfl))⟩
 f29:=⟨Tryz.f272.name,by decide,Tryz.func272.trans (congrArg some (by kernel_rfl))⟩
 f31:=Tryz.func283.trans (congrArg some (by kernel_rfl))
 f32:=Tryz.func284.trans (congrArg some (by kernel_rfl))
 f36:=⟨Tryz.f282.name,by decide,Tryz.func282.trans (congrArg some (by kernel_rfl))⟩
 f37:=⟨Tryz.f285.name,by decide,Tryz.func285.trans (congrArg some (by kernel_rfl))⟩
 f38:=⟨Tryz.f286.name,by decide,Tryz.func286.trans (congrArg some (by kernel_rfl))⟩
 f39:=⟨Tryz.f259.name,by decide,Tryz.func259.trans (congrArg some (by kernel_rfl))⟩
 f41:=⟨Tryz.f293.name,by decide,Tryz.func293.trans (congrArg some (by kernel_rfl))⟩
 t0:=Tryz.underlying0
 a0:=Tryz.isAgg0
 z0:=Tryz.sizeOf0
 v0:=Tryz.zeroValue0
 t3:=Tryz.underlying3
 a3:=Tryz.isAgg3
 z3:=Tryz.sizeOf3
 v3:=Tryz.zeroValue3
 t4:=qeA
 a4:=Tryz.isAgg4
 z4:=Tryz.sizeOf4
 v4:=Tryz.zeroValue4
 t5:=Tryz.underlying5
 a5:=Tryz.isAgg5
 z5:=Tryz.sizeOf5
 v5:=Tryz.zeroValue5
 t9:=qd7
 a9:=Tryz.isAgg9
 z9:=Tryz.sizeOf9
 v9:=qeK
 t26:=Tryz.underlying91
 a26:=Tryz.isAgg91
 z26:=Tryz.sizeOf91
 v26:=Tryz.zeroValue91
 t27:=Tryz.underlying91
 a27:=Tryz.isAgg91
 z27:=Tryz.sizeOf91
 v27:=Tryz.zeroValue91
 t29:=qd7
 a29:=Tryz.isAgg9
 z29:=Tryz.sizeOf9
 v29:=qeK
 t32:=Tryz.underlying321
 a32:=Tryz.isAgg321
 z32:=Tryz.sizeOf321
 v32:=Tryz.zeroValue321
 t35:=Tryz.underlying362
 a35:=Tryz.isAgg362
 z35:=Tryz.sizeOf362
 v35:=Tryz.zeroValue362
 t36:=Tryz.underlying363
 a36:=Tryz.isAgg363
 z36:=Tryz.sizeOf363
 v36:=Tryz.zeroValue363
 t41:=Tryz.underlying122
 a41:=Tryz.isAgg122
 z41:=Tryz.sizeOf122
 v41:=Tryz.zeroValue122
 t44:=Tryz.underlying59
 a44:=Tryz.isAgg59
 z44:=Tryz.sizeOf59
 v44:=Tryz.zeroValue59
 t46:=Tryz.underlying113
 a46:=Tryz.isAgg113
 z46:=Tryz.sizeOf113
 v46:=Tryz.zeroValue113
 t53:=Tryz.underlying378
 a53:=Tryz.isAgg378
 z53:=Tryz.sizeOf378
 v53:=Tryz.zeroValue378
 t57:=Tryz.underlying381
 a57:=Tryz.isAgg381
 z57:=Tryz.sizeOf381
 v57:=Tryz.zeroValue381
 t63:=Tryz.underlying387
 a63:=Tryz.isAgg387
 z63:=Tryz.sizeOf387
 v63:=Tryz.zeroValue387
 t64:=Tryz.underlying264
 a64:=Tryz.isAgg264
 z64:=Tryz.sizeOf264
 v64:=Tryz.zeroValue264}
def fW (ns:List (List UInt8)):List (List UInt8):=ns.mergeSort fun x y=>decide (x≤y)
def iL (args:List Value) (A:Mem) (ns:List (List UInt8)):Prop:=∃bp m,args=[.func (.func 183) ⟨[]⟩ ⟨[.pointer (some ⟨bp,0,none⟩)]⟩]∧VB A 199 bp (.var 1) [.map (some m)]∧A.get m=some (.map (bB ns 0) ns.length)∧ns≠ []∧ns.Nodup∧ns.length<1000∧∀n∈ns,n.length<1000
theorem xZ:∀{ns ns':List (List UInt8)} {o:Nat},bB ns o=bB ns' o→ns=ns'
 | [],[],_,_=>rfl
 | [],_::_,_,h=>by cases h
 |_::_,[],_,h=>by cases h
 |n::ns,n'::ns',o,h=>by
  rw [bB,bB,qa4] at h;have h1:aj n=aj n':=congrArg MapEntry.key h.1;rw [xZ h.2,show n=n' by unfold aj at h1;simpa using h1]
variable {A:Mem} {ns:List (List UInt8)}
theorem DD {args:List Value} {ns':List (List UInt8)} (h:iL args A ns) (h':iL args A ns'):ns'=ns:=by
 obtain⟨bp,m,rfl,⟨-,c,q1,q2⟩,q3,-⟩:=h;obtain⟨bp',m',e,⟨-,c',r1,r2⟩,r3,-⟩:=h';simp only [qa4,Value.func.injEq,qeL,Value.pointer.injEq,qaX,Addr.mk.injEq,and_true,true_and] at e;subst e;rw [q1] at r1;injection r1 with r1;injection r1 with _ _ _ r1;subst r1;have e2:=(q2 0 (by simp)).symm.trans (r2 0 (by simp));simp only [qau,qaX,Value.map.injEq] at e2;subst e2;rw [q3] at r3;injection r3 with r3;injection r3 with r3 _;exact(xZ r3).symm
noncomputable def kc (ns:List (List UInt8)) (A:Mem):Value×Mem:=(.slice (some ⟨A.next,0,none⟩) ns.length (fQ ns.length 1),A.alloc (.cells 9 .row 0 (T.bK .e 0 ((fW ns).map aj))))
open Classical in
noncomputable def rS:List Value→Mem→R (Value×Mem):=fun args A=>if h:∃ns,iL args A ns then .ok (kc h.choose A) else .no 900
theorem HA {args:List Value} (h:iL args A ns):rS args A= .ok (kc ns A):=by
 have h':∃ns,iL args A ns:=⟨ns,h⟩;unfold rS;rw [dif_pos h',DD h h'.choose_spec]
variable {ι:de}
theorem EB:∀{ns:List (List UInt8)} {o:Nat} {l:List MapEntry},wz ι (bB ns o) l→l=bB ns o
 | [],_,_,h=>by cases h;rfl
 |n::ns,o,_,h=>by
  rw [bB] at h;cases h with
  |cons hk hb hv ht=>
   rename_i e l;obtain⟨k,v,b⟩:=e;cases hk;cases hv;cases hb;rw [EB ht];rfl
theorem tN:∀(ns:List (List UInt8)) (o:Nat),(bB ns o).map (·.key)=ns.map aj
 | [],_=>rfl
 |n::ns,o=>by rw [bB,qbx,tN ns,qbx]
theorem x5:∀(ns:List (List UInt8)) (o:Nat),(bB ns o).map (·.born)=(qcF o ns.length)
 | [],_=>rfl
 |n::ns,o=>by rw [bB,qbx,x5 ns,qaA,List.range'_succ]
theorem P2 (m:Nat):AnyZ.SortsIn qba uV Fence.wide m:=
 ⟨fun blk off cap ss W hH hblk hsz=>callsIn_wide.2 (AnyM.slices_Sort_string TW blk off cap ss W hH hblk hsz),fun p cap W=>callsIn_wide.2 (AnyM.slices_Sort_string_none TW p cap W)⟩
abbrev Yl:Value→Option (DataW Unit×List MemPlace):=fun _=>some (.nil,[])
variable {v:Value} {b:Nat}
theorem JT {n:List UInt8} (hn:n.length<1000):WideElems.rd qba 9 Yl ⟨aj n,v,b⟩=some (.string n,.nil):=by
 have hu:qba.underlying 9=some .string:=qd7;have hl:(⟨⟨n⟩⟩:ByteArray).size≤maxLen:=by
  show n.length≤maxLen;unfold maxLen;omega
 unfold WideElems.rd keyOf mapKey aj;simp only [hu,if_pos hl];rfl
theorem Fz:∀{ns:List (List UInt8)} (o:Nat),(∀n∈ns,n.length<1000)→(bB ns o).map (WideElems.rg qba 9 Yl)=ns.map fun n=>(.string n,.nil)
 | [],_,_=>rfl
 |n::ns,o,h=>by
  rw [bB,qbx,Fz (o+1) fun n hn=>h n (qay _ hn),qbx];unfold WideElems.rg;rw [JT (h n qaz)];rfl
theorem xY {x:MapEntry}:∀{ns:List (List UInt8)} {o:Nat},x∈bB ns o→∃n v b,n∈ns∧x=⟨aj n,v,b⟩
 |n::ns,o,h=>by
  rcases qaK.1 h with rfl|h
  ·exact⟨n,_,_,qaz,rfl⟩
  ·obtain⟨n',v,b,h1,h2⟩:=xY h;exact⟨n',v,b,qay _ h1,h2⟩
theorem dv.Zw {a:Array Value} (h:dv ι [] a.toList):a= #[]:=by
 obtain⟨l⟩:=a;cases h;rfl
theorem dv.Ym {a:Array Value} (h:dv ι [v] a.toList):∃v',a= #[v']∧VR ι v v':=by
 obtain⟨l⟩:=a;cases h with
 |cons h1 h2=>cases h2;exact⟨_,rfl,h1⟩
theorem ES:b9 cg.P 126 rS:=by
 intro args A v A' ha;unfold rS at ha;by_cases hc:∃ns,iL args A ns
 case neg=>rw [dif_neg hc] at ha;cases ha
 rw [dif_pos hc] at ha;have hs:=hc.choose_spec;generalize hc.choose=ns at ha hs;obtain⟨rfl,rfl⟩:(kc ns A).1=v∧(kc ns A).2=A':=by cases ha;exact⟨rfl,rfl⟩
 obtain⟨bp,m,rfl,⟨-,c,q1,q2⟩,q3,h0,hnd,hl,hn⟩:=hs;refine⟨by show A.next≤(A.alloc _).next;rw [ae];omega,fun ι w args' hr hargs hf fr cs=>?_⟩;obtain⟨l,hlb,rfl⟩:∃l,ι bp=some l∧args'= #[.func (.func 183) #[] #[.pointer (some ⟨l.blk,0+l.sh,none⟩)]]:=by
  obtain⟨v',rfl,hv⟩:=dv.Ym hargs;cases hv;rename_i a' b' h1 h2;obtain rfl:=dv.Zw h1;obtain⟨v2,rfl,h3⟩:=dv.Ym h2;cases h3;rename_i h5;exact⟨_,h5,rfl⟩
 obtain⟨o1,g1,cs1,fr1,rfl,g2,g3,g4,g5,g6⟩:=hr.obs bp _ l q1 rfl hlb;obtain⟨v1,g7,g8⟩:=g3 0 _ (q2 0 (by simp));cases g8 with
 |map hm=>
 rename_i lm;obtain⟨o2,k1,-,es',rfl,k2⟩:=hr.obs m _ lm q3 rfl hm;have hes:=EB k2;have hcell:w.cell? ⟨l.blk,0,none⟩=some (.map (some lm.blk)):=by
  unfold World.cell?;rw [g4] at g7;simp only [g1];exact g7
 have hkn:(es'.toList.map (·.key)).Nodup:=by
  rw [hes,tN];exact List.pairwise_map.2 (hnd.imp fun hne e=>hne (by unfold aj at e;simpa using e))
 have hbn:es'.toList.map (·.born)=qcF 0 ns.length:=by rw [hes,x5]
 have hsz:es'.size=ns.length:=by rw [←qb5,hes];simpa using congrArg qcE (tN ns 0)
 have hF:WideElems.Fit qba 9 Yl es' ns.length:=⟨by rw [hsz];unfold maxLen;omega,⟨fun x hx=>by
  have:x.born∈es'.toList.map (·.born):=List.mem_map_of_mem hx;rw [hbn,List.mem_range'_1] at this;omega,by rw [hbn];exact List.nodup_range',hkn⟩,fun x hx=>by
  rw [hes] at hx;have:=xY hx;obtain⟨n,v,b,h1,rfl⟩:=this;exact⟨_,JT (hn n h1)⟩⟩
 generalize hD:((es'.toList.map (WideElems.rg qba 9 Yl)).foldr DataW.insert []:List (Lit×DataW Unit))=D at*;have hown:w.ownsMap qba 9 Yl lm.blk ns.length (.map D):=⟨es',ns.length,k1,hF,by omega,by rw [←hD]⟩;have hperm:D.Perm (ns.map fun n=>(.string n,.nil)):=by
  rw [←hD,hes,Fz 0 hn];exact Go.WideShapes.sorted_perm _
 have hDl:D.length=ns.length:=by rw [hperm.length_eq,qas]
 have hstr:(Go.strKeys (.map D:DataW Unit)).Perm ns:=by
  have:=hperm.map fun p:Lit×DataW Unit=>Go.strOf p.1
  rw [List.map_map] at this;exact this.trans (by rw [show(fun p:Lit×DataW Unit=>Go.strOf p.1)∘(fun n=>((.string n,.nil):Lit×DataW Unit))=id from rfl,List.map_id])
 have hms:Maps.size (.map D:DataW Unit)=ns.length:=hDl;have hseq:SeqGives Fence.wide 2 qba 183 #[.pointer (some ⟨l.blk,0+l.sh,none⟩)] encStr (fun ss=>ss.Perm (Go.strKeys (.map D:DataW Unit))) (Maps.size (.map D:DataW Unit)) w:=by
  rw [g4];exact AnyZ.keys_gives Vf Fence.wide 2 trivial rfl (by omega) l.blk lm.blk ns.length (.map D) w (hr.rng _ _ hlb) hcell hown
 have hcall:=callsIn_wide.1 (AnyZ.sorted_in Tb Fence.wide 5 trivial trivial trivial trivial rfl (by omega) (P2 _) (enters_of Tryz.func182 (by kernel_rfl) rfl) 183 _ trivial (enters_of Tryz.func183 (by kernel_rfl) rfl) _ _ (by rw [hms];unfold maxLen;omega) (by rw [hms];omega) w hseq);obtain⟨e,w',fr0,⟨v,ss,rfl,hss,hrow,-,hB⟩,st,-,hlv⟩:=hcall (fr::cs);have hssn:ss.Perm ns:=hss.trans hstr;have hsl:ss.length=ns.length:=hssn.length_eq;have hm:(ss.mergeSort fun x y=>decide (x≤y))=fW ns:=Go.mergeSort_of_perm hssn;rw [hm] at hrow;obtain⟨-,⟨-,hz⟩|⟨g,cap,cur,rfl,r1,r2,r3,r4,r5,r6⟩⟩:=hrow
 ·exact absurd (qaP.1 (hsl▸hz)) h0
 rw [qb2] at r5 r6;have hsn:(fW ns).length=ns.length:=List.length_mergeSort ns;have hor:∀(i:Nat) (v:Value),(T.bK .e 0 ((fW ns).map aj)).get i=some v→∃v',cur[i+0]?=some v'∧∀ι',VR ι' v v':=fun i v hi=>by
  rw [T.dW] at hi;split at hi
  ·rename_i hlt;rw [qas] at hlt;rw [qbA,qaN] at hi;have e1:((fW ns).map encStr)[i]?=some v:=by rw [qaN];exact hi
   rw [←r6,qbm,if_pos (by omega),qaU] at e1;refine⟨v,e1,fun ι'=>?_⟩;rw [qan (by omega)] at hi;cases hi;exact .string _
  ·rw [T.lj] at hi;cases hi
 obtain⟨ι',i1,i2,i3⟩:=hr.Nz (w':=w') (ob:=.cells 9 .row 0 (T.bK .e 0 ((fW ns).map aj))) (sz:=cap) (hf A.next (qao _) (by show A.next<(A.alloc _).next;rw [ae];omega)) (fun t k c h=>by
  injection h with _ _ h;unfold GB at h;omega) r1 ⟨hB.size,r2,fun k hk _=>hB.block k hk,hB.os,hB.tape,hB.output⟩ (qaM.1 r2).1 fun ι' _ _=>⟨cur,(0,0),rfl,r5,fun i v hi=>(hor i v hi).imp fun v' h=>⟨h.1,h.2 ι'⟩,qaB _⟩
 refine⟨ι',w',_,Steps.trans st (.one (step_leave_returned hlv)),?_,i2,i3⟩;have hcn:bJ (fQ ns.length 1)=ns.length:=cD (by omega);have:=VR.slX (o:=0) (o':=0) (len:=ns.length) (k:=fQ ns.length 1) (cap':=cap) i1 (cX _ _) (by omega) (by rw [c7 (by omega)];show 0+cap*1≤cap;omega) (fun _=>rfl) (by unfold maxLen at r4;omega) (by omega);rw [hsl];exact this
end Go.Proofs.YtjoceidiioppiaaGreatDoor.sto
namespace Go.Am
noncomputable def oN {X:Type} (P:X→Prop) (a:X→List Value) (r:X→Value):List Value→Option Value:=fun args=>
 open Classical in if h:∃x,P x∧args=a x then some (r h.choose) else none
theorem RI {X:Type} {P:X→Prop} {a:X→List Value} {r:X→Value} (hi:∀x y,a x=a y→r x=r y) {x:X} (hx:P x):oN P a r (a x)=some (r x):=by
 unfold oN;have h:∃y,P y∧a x=a y:=⟨x,hx,rfl⟩;rw [dif_pos h,hi _ _ h.choose_spec.2.symm]
variable {tb:bO}
variable {fn:Func}
theorem fg (ok:cC tb) {f:FuncId} {c:Code} {X:Type} {P:X→Prop} {a:X→List Value} {r:X→Value} (hf:tb.fn.get f=some fn) (hb:fn.body=some c) (hnm:(fn.name== "runtime.NumGoroutine")=false) (hk:tb.hk.get f=none)
 (h:∀x,P x→(∀v∈a x,flat 9 v=true)∧flat 9 (r x)=true∧∃A',bg tb f (a x) dZ (r x) A'):b9 tb.P f (aK (oN P a r)):=by
 refine dP ok hf hb fun args v hv=>?_
 unfold oN at hv;split at hv
 ·rename_i hx;cases hv;obtain⟨hp,he⟩:=hx.choose_spec;obtain⟨h1,h2,A',h3⟩:=h _ hp;obtain⟨n,hn⟩:=Ag hf hb hnm hk h3;refine⟨fun v hv=>h1 v (he▸hv),h2,n,A',?_⟩;rw [←hn];exact congrArg (fun l=>call tb n f l dZ) he
 ·cases hv
theorem iS {ih:Code→St→R (Ex×St)} {A:Mem} {f:FuncId} {c:Code} {X:Type} {P:X→Prop} {a:X→List Value} {r:X→Value} (hf:tb.fn.get f=some fn) (hn:(fn.name== "runtime.NumGoroutine")=false) (hb:fn.body=some c)
 (hk:tb.hk.get f=some (aK (oN P a r))) (hi:∀x y,a x=a y→r x=r y) {x:X} (hx:P x):bA tb ih (.fn f (a x)) A= .ok (.val (r x) A):=by
 refine cr hf hn hb hk ?_;unfold aK;rw [RI hi hx]
end Go.Am
namespace Go.Proofs.YtjoceidiioppiaaGreatDoor.sto
open Go.Am Go.Mdl Go.Sto
theorem str_inj {a b:List UInt8} (h:aj a=aj b):a=b:=by unfold aj at h;simpa using h
def MR (x:List UInt8×Nat):List Value:=[aj x.1,.int .i64 x.2]
def Yq (x:List UInt8×Nat):Prop:=x.1.length<1000000∧x.2≤x.1.length
theorem Zk:∀x y,MR x=MR y→C0 (tG x.1 x.2)=C0 (tG y.1 y.2):=by
 rintro⟨s,a⟩ ⟨s',a'⟩ h;simp only [MR,qa4,Value.int.injEq,and_true,true_and] at h;obtain⟨h1,h2⟩:=h;cases str_inj h1;cases qdC h2;rfl
noncomputable def XX:=aK (oN Yq MR fun x=>C0 (tG x.1 x.2))
theorem Oc:b9 cg.P 239 XX:=fg fc (bH Tryz.func239) Cx (by kernel_rfl) (by kernel_rfl) fun x hx=>⟨by simp [MR,flat,aj],by simp [C0,flat],by
 obtain⟨v,A',h,rfl⟩:=run_get (A:=dZ) hx.1 hx.2;exact⟨A',h⟩⟩
def wD (x:Nat):List Value:=[.int .u64 x]
theorem Yg {x y:Nat} (h:wD x=wD y):x=y:=by
 simp only [wD,qa4,Value.int.injEq,and_true,true_and] at h;exact qdC h
noncomputable def U2:=aK (oN (fun x:Nat=>x<18446744073709551616) wD fun x=>aj (cK x))
theorem ER:b9 cg.P 209 U2:=fg fc (bH Tryz.func209) Cp (by kernel_rfl) (by kernel_rfl) fun x hx=>⟨by simp [wD,flat],by simp [flat,aj],by
 obtain⟨v,A',h,rfl⟩:=PD (A:=dZ) hx;exact⟨A',h⟩⟩
noncomputable def XY:=aK (oN (fun x:Nat=>x<18446744073709551616) wD fun x=>.agg ⟨kT x⟩)
theorem OF (x:Nat):flat 9 (.agg ⟨kT x⟩)=true:=by
 simp only [flat,kT,ia,cZ,List.all_append,List.all_map,List.all_replicate,qet,List.all_nil,qci,qaO];simp [Function.comp_def,flat,eo]
theorem Od:b9 cg.P 226 XY:=fg fc (bH Tryz.func226) CB (by kernel_rfl) (by kernel_rfl) fun x hx=>⟨by simp [wD,flat],OF x,by
 obtain⟨v,A',h,rfl⟩:=JY (A:=dZ) hx;exact⟨A',h⟩⟩
noncomputable def X3:=aK (oN (fun e:aP=>e.weight<4294967296) Gz fun e=>.int .u64 (val e:Nat))
theorem Oi:b9 cg.P 207 X3:=fg fc (bH Tryz.func207) (c:=Tryz.f207.body.getD .skip) (by kernel_rfl) (by kernel_rfl) (by kernel_rfl) fun e he=>⟨by simp [Gz,a_,flat,aj],by simp [flat],_,Md he⟩
def GC (w:List UInt8):List Value:=[aj w]
theorem Zu {x y:List UInt8} (h:GC x=GC y):x=y:=by
 simp only [GC,qa4,and_true] at h;exact str_inj h
noncomputable def ZY:=aK (oN (fun _=>True) GC fun w=>.bool (decide (1≤w.length∧w.length≤255)))
theorem RK:b9 cg.P 246 ZY:=fg fc (bH Tryz.func246) (c:=Tryz.f246.body.getD .skip) (by kernel_rfl) (by kernel_rfl) (by kernel_rfl) fun x _=>⟨by simp [GC,flat,aj],by simp [flat],_,VS⟩
noncomputable def XZ:=aK (oN (fun _=>True) GC fun w=>.bool (decide (0<w.length∧w.length≤64)))
theorem Oe:b9 cg.P 132 XZ:=fg fc (bH Tryz.func132) (c:=Tryz.f132.body.getD .skip) (by kernel_rfl) (by kernel_rfl) (by kernel_rfl) fun x _=>⟨by simp [GC,flat,aj],by simp [flat],_,SQ⟩
noncomputable def X0:=aK (oN (fun n:Nat=>n<1099511627776) wD fun n=>.int .i64 n)
theorem Of:b9 cg.P 216 X0:=fg fc (bH Tryz.func216) (c:=Tryz.f216.body.getD .skip) (by kernel_rfl) (by kernel_rfl) (by kernel_rfl) fun x hx=>⟨by simp [wD,flat],by simp [flat],_,SU hx⟩
def MT (x:Nat×Bool):List Value:=[.agg ⟨[.int .u64 x.1,.bool x.2]⟩]
theorem Zv {x y:Nat×Bool} (h:MT x=MT y):x=y:=by
 obtain⟨a,b⟩:=x;obtain⟨a',b'⟩:=y;simp only [MT,qa4,Value.agg.injEq,qeL,Value.int.injEq,Value.bool.injEq,and_true,true_and] at h;cases qdC h.1;cases h.2;rfl
noncomputable def N7:=aK (oN (fun _=>True) MT fun x=>.bool (x.2&&decide (x.1≤4294967296)))
theorem HE:b9 cg.P 202 N7:=fg fc (bH Tryz.func202) (c:=Tryz.f202.body.getD .skip) (by kernel_rfl) (by kernel_rfl) (by kernel_rfl) fun x _=>⟨by simp [MT,flat],by simp [flat],_,Mc⟩
noncomputable def YB:bO:=cg.qd 209 U2
theorem Wc:cC YB:=bV fc ER
noncomputable def X2:=aK (oN (fun x:Nat=>x<18446744073709551616) wD fun x=>aj (cK x))
variable {n:Nat}
theorem SV {A:Mem} (h:n<18446744073709551616):bg YB 160 [.int .u64 n] A (aj (cK n)) A:=by
 have k:∀ih,bA YB ih (.fn 209 [.int .u64 n]) A= .ok (.val (aj (cK n)) A):=fun ih=>iS (tb:=YB) (x:=n) (bH Tryz.func209) (by kernel_rfl) Cp (by simp only [YB,bO.qd,T.aH];rfl) (fun x y h=>by rw [Yg h]) h
 refine bm 60 (bH Tryz.func160) (by kernel_rfl) fun M=>?_
 simp (disch:=first|decide+kernel|omega) only [Tryz.f160,Aq,qal,k]<;>rfl
theorem Og:b9 cg.P 160 X2:=fg Wc (bH Tryz.func160) (c:=Tryz.f160.body.getD .skip) (by kernel_rfl) (by kernel_rfl) (by kernel_rfl) fun x hx=>⟨by simp [wD,flat],by simp [flat,aj],_,SV hx⟩
def bare (e:aP):aP:=if e.gone then⟨e.word,0,true⟩ else e
noncomputable def TN:=aK (oN (fun _=>True) Gz fun e=>.agg ⟨a_ (bare e)⟩)
theorem W7 {t:TypeId} (h:(cg.ba t).map bQ=some true):∃d,cg.ba t=some d∧bQ d=true:=by
 cases hq:cg.ba t with
 |none=>rw [hq] at h;cases h
 |some d=>rw [hq] at h;exact⟨d,rfl,by simpa using h⟩
theorem WJ:bS cg 61= .ok (.agg ⟨[.string .empty,wN 0,.bool false]⟩):=by kernel_rfl
theorem VW:aR cg 59= .ok 1:=by kernel_rfl
theorem vX (e:aP):∀v∈a_ e,aJ v=true:=by
 intro v hv;simp only [a_,qaK,qbb,or_false] at hv;rcases hv with rfl|rfl|rfl<;>rfl
variable {e:aP}
theorem Pk {A:Mem}:∃v A',bg cg 79 [.agg ⟨a_ e⟩] A v A'∧v= .agg ⟨a_ (bare e)⟩:=by
 have v1:=ay A 61 (a_ e);generalize hB:A.alloc (aa 61 (a_ e))=B at v1;have v2:=ay B 61 [.string .empty,.int .u32 (0:Nat),.bool false];have v1:=v1.kp (Kp.alloc B (aa 61 [.string .empty,.int .u32 (0:Nat),.bool false]));have hne:B.next≠A.next:=by rw [←hB,ae];omega
 generalize hC:B.alloc (aa 61 [.string .empty,.int .u32 (0:Nat),.bool false])=C at v2 v1;have lg:ag cg C.get 4 (.pointer (some ⟨A.next,2,none⟩))= .ok (.bool e.gone):=v1.ld rfl My rfl;obtain⟨d,hd1,hd2⟩:=W7 (t:=61) (by kernel_rfl);cases hg:e.gone with
 |true=>
  rw [hg] at lg;obtain⟨D,sD,vD,nD,fD⟩:=aL (tb:=cg) (t:=59) (o:=1) (v:=.int .u32 (0:Nat)) VW v1.2 (by simp [a_]) rfl rfl;have el:(a_ e).set 1 (.int .u32 (0:Nat))=a_ (bare e):=by simp [a_,bare,hg]
  rw [el] at vD;have lw:ag cg D.get 61 (.pointer (some ⟨A.next,0,none⟩))= .ok (.agg ⟨a_ (bare e)⟩):=aI hd1 hd2 tU vD;obtain⟨E,sE,vE,-⟩:=cY (tb:=cg) (t:=61) (l':=a_ (bare e)) (by exact tU) (v2.2.same (fD _ hne)) rfl (by simp) (vX _);have lE:ag cg E.get 61 (.pointer (some ⟨B.next,0,none⟩))= .ok (.agg ⟨a_ (bare e)⟩):=aI hd1 hd2 tU vE;refine⟨_,E,?_,rfl⟩;refine bm 60 (bH Tryz.func79) (by kernel_rfl) fun M=>?_
  simp (disch:=first|decide+kernel|omega) only [Tryz.f79,Aq,qal,au,WJ,hB,hC,TI,I5,lg,sD,lw,sE,lE]<;>rfl
 |false=>
  rw [hg] at lg;have el:a_ e=a_ (bare e):=by simp [bare,hg]
  have lw:ag cg C.get 61 (.pointer (some ⟨A.next,0,none⟩))= .ok (.agg ⟨a_ e⟩):=aI hd1 hd2 tU v1.2;obtain⟨E,sE,vE,-⟩:=cY (tb:=cg) (t:=61) (l':=a_ e) (by exact tU) v2.2 rfl (by simp) (vX _);have lE:ag cg E.get 61 (.pointer (some ⟨B.next,0,none⟩))= .ok (.agg ⟨a_ e⟩):=aI hd1 hd2 tU vE;refine⟨_,E,?_,congrArg (fun l=>Value.agg ⟨l⟩) el⟩;refine bm 60 (bH Tryz.func79) (by kernel_rfl) fun M=>?_
  simp (disch:=first|decide+kernel|omega) only [Tryz.f79,Aq,qal,au,WJ,hB,hC,I5,lg,lw,sE,lE]<;>rfl
theorem La:b9 cg.P 79 TN:=fg fc (bH Tryz.func79) (c:=Tryz.f79.body.getD .skip) (by kernel_rfl) (by kernel_rfl) (by kernel_rfl) fun e _=>⟨by simp [Gz,a_,flat,aj],by simp [a_,flat,aj],by
 obtain⟨v,A',h,rfl⟩:=Pk (A:=dZ) (e:=e);exact⟨A',h⟩⟩
def Uj (x:(Nat×Bool)×Nat):List Value:=[.agg ⟨[.int .u64 x.1.1,.bool x.1.2]⟩,.int .u64 x.2]
noncomputable def hAnd:=aK (oN (fun x:(Nat×Bool)×Nat=>x.1.1+x.2<18446744073709551616) Uj fun x=>.agg ⟨[.int .u64 (x.1.1+x.2:Nat),.bool x.1.2]⟩)
variable {m:Nat}
theorem Nt {ih:Code→St→R (Ex×St)} {A:Mem} (h:n+m<18446744073709551616):bA cg ih (.fn 243 [.int .u64 n,.int .u64 m,uN 0]) A= .ok (.val (.tuple ⟨[uN (n+m),uN 0]⟩) A):=by
 have e:bA cg ih (.fn 243 [.int .u64 n,.int .u64 m,uN 0]) A= .ok (.val (.tuple ⟨[uN ((n+m+0) % 18446744073709551616),uN ((n+m+0)/18446744073709551616)]⟩) A):=by kernel_rfl
 rw [e,qa8,qbL h,Nat.div_eq_of_lt h]
theorem J9:aR cg 280= .ok 2:=by kernel_rfl
theorem Ts:bS cg 280= .ok (.agg ⟨[uN 0,.bool false]⟩):=by kernel_rfl
variable {b o:Nat}
theorem UT:av cg 280 (pw b o) 0= .ok (pw b o):=by kernel_rfl
theorem UU:av cg 280 (pw b o) 1= .ok (pw b (o+1)):=by kernel_rfl
theorem Xm {x:Int} {f:Bool}:ct cg 280 [(0,.int .u64 x),(1,.bool f)]= .ok (.agg ⟨[.int .u64 x,.bool f]⟩):=by kernel_rfl
theorem SJ {A:Mem} {f:Bool} (h:n+m<18446744073709551616):∃v A',bg cg 200 [.agg ⟨[.int .u64 n,.bool f]⟩,.int .u64 m] A v A'∧v= .agg ⟨[uN (n+m),.bool f]⟩:=by
 have v1:=ay A 280 [.int .u64 n,.bool f];generalize hB:A.alloc (aa 280 [.int .u64 n,.bool f])=B at v1;have v2:=ay B 280 [uN 0,.bool false];have v1:=v1.kp (Kp.alloc B (aa 280 [uN 0,.bool false]));generalize hC:B.alloc (aa 280 [uN 0,.bool false])=C at v2 v1;have l1:ag cg C.get 113 (pw A.next 0)= .ok (.int .u64 n):=v1.ld rfl gZ rfl;have l2:ag cg C.get 4 (pw A.next (0+1))= .ok (.bool f):=v1.ld rfl My rfl;obtain⟨d,hd1,hd2⟩:=W7 (t:=280) (by kernel_rfl);have ka:=fun ih=>Nt (ih:=ih) (A:=C) h
 obtain⟨E,sE,vE,-⟩:=cY (tb:=cg) (t:=280) (l':=[uN (n+m),.bool f]) (by exact J9) v2.2 rfl (by simp) (by simp [aJ]);have lE:ag cg E.get 280 (pw B.next 0)= .ok (.agg ⟨[uN (n+m),.bool f]⟩):=aI hd1 hd2 J9 vE;refine⟨_,E,?_,rfl⟩;cases f
 all_goals
  refine bm 60 (bH Tryz.func200) (by kernel_rfl) fun M=>?_
  simp (config:={maxSteps:=4000000}) (disch:=first|decide+kernel|omega|simp only [Wq,qal]) only [Tryz.f200,Aq,qaq,reduceIte,qal,qam,au,Ts,hB,hC,UT,UU,l1,l2,ka,Xm,sE,lE,qau,qav]<;>rfl
theorem N9:b9 cg.P 200 hAnd:=fg fc (bH Tryz.func200) (c:=Tryz.f200.body.getD .skip) (by kernel_rfl) (by kernel_rfl) (by kernel_rfl) fun x hx=>⟨by simp [Uj,flat],by simp [flat],by
 obtain⟨v,A',h,rfl⟩:=SJ (A:=dZ) (f:=x.1.2) hx;exact⟨A',h⟩⟩
def Uk (n:Nat):List Value:=[.int .u64 n,.int .i64 (36:Nat)]
noncomputable def XW:=aK (oN (fun n:Nat=>n<18446744073709551616) Uk fun n=>aj (qe n))
theorem Oa:b9 cg.P 224 XW:=fg fc (bH Tryz.func224) (c:=Tryz.f224.body.getD .skip) (by kernel_rfl) (by kernel_rfl) (by kernel_rfl) fun n hn=>⟨by simp [Uk,flat],by simp [flat,aj],SN hn⟩
def cd (n:Nat):List UInt8:=[115,101,103,45,.ofNat (48+n)]
def Zr:List UInt8:=[109,97,110,105,102,101,115,116]
def names:Kx:=([.int .i64 1,.int .i64 0],aj Zr)::(qbN 6).map fun n=>([.int .i64 4,.int .i64 (.ofNat (n+1))],aj (cd (n+1)))
theorem R':JA cg 100000 29 names=true:=by kernel_rfl
theorem Sa:JA cg 100000 45 names=true:=by kernel_rfl
variable {fn:Func}
theorem AT {f:FuncId} {c:Code} (hf:cg.fn.get f=some fn) (hb:fn.body=some c) {l:Kx} (h:JA cg n f l=true):b9 cg.P f (aK (qo l)):=(R9 fc hf hb h).hk f _ (by simp only [bO.qd,T.aH];rfl)
theorem Ld:b9 cg.P 29 (aK (qo names)):=AT (bH Tryz.func29) (c:=Tryz.f29.body.getD .skip) (by kernel_rfl) R'
theorem HB:b9 cg.P 45 (aK (qo names)):=AT (bH Tryz.func45) (c:=Tryz.f45.body.getD .skip) (by kernel_rfl) Sa
noncomputable def oR:T (List Value→Mem→R (Value×Mem)):=((((((((((((((((((cg.hk.set 123 (aK crc.sr)).set 226 XY).set 239 XX).set 209 U2).set 207 X3).set 246 ZY).set 132 XZ).set 216 X0).set 202 N7).set 160 X2).set 79 TN).set 200 hAnd).set 224 XW).set 29 (aK (qo names))).set 45 (aK (qo names))).set 161 (aK crc.H2)).set 138 (aK crc.Fs))).set 126 rS
noncomputable def cE:bO:={cg with hk:=oR}
theorem Qh:cC cE:=bV (bV (bV (bV (bV (bV (bV (bV (bV (bV (bV (bV (bV (bV (bV (bV (bV (bV fc crc.tH) Od) Oc) ER) Oi) RK) Oe) Of) HE) Og) La) N9) Oa) Ld) HB) crc.HC) crc.AU) ES
variable {k:Nat}
theorem gF (h:qba.funcs[k]?=some fn):cE.fn.get k=some fn:=bH h
theorem N8 {h:List Value→Mem→R (Value×Mem)} (e:oR.get k=some h):cE.hk.get k=some h:=e
section
variable {ih:Code→St→R (Ex×St)} {A:Mem}
theorem X9 {s:List UInt8} {a:Nat} (hs:s.length<1000000) (ha:a≤s.length):bA cE ih (.fn 239 [aj s,.int .i64 a]) A= .ok (.val (C0 (tG s a)) A):=
 iS (x:=(s,a)) (gF Tryz.func239) (by kernel_rfl) Cx (N8 (by simp only [oR,T.aH];rfl)) Zk (show Yq (s,a) from⟨hs,ha⟩)
theorem Vc {s:List UInt8} (hs:s.length<900000):bA cE ih (.fn 138 [aj s]) A= .ok (.val (.tuple ⟨[aj (crc.lM s).1,.bool (crc.lM s).2]⟩) A):=
 cr (gF Tryz.func138) (by kernel_rfl) (c:=Tryz.f138.body.getD .skip) (by kernel_rfl) (N8 (by simp only [oR,T.aH];rfl)) (by
  have e:crc.Fs [aj s]=some (.tuple ⟨[aj (crc.lM s).1,.bool (crc.lM s).2]⟩):=if_pos hs;unfold aK;rw [e])
end
end Go.Proofs.YtjoceidiioppiaaGreatDoor.sto
namespace Go.Proofs.YtjoceidiioppiaaGreatDoor.sto
open Go.Am Go.Sto
theorem Jz (n:Nat):∀{m i:Nat},i<m→(rV n m)[i]?=some (.ofNat (n>>>(8*i) % 256))
 |m+1,i,h=>by
  unfold rV;rcases qaZ i m with h1|h1
  ·rw [qaJ (by rw [i_];exact h1)];exact Jz n h1
  ·rw [qaF (by rw [i_];exact h1),i_,show i-m=0 by omega,show i=m by omega];rfl
variable {n:Nat}
theorem EM {s:List UInt8} {a:Nat}:∀{i:Nat},(∀j,j<i→s[a+1+j]?=some (.ofNat (n>>>(8*j) % 256)))→oQ s a i=n % 2^(8*i)
 |0,_=>by simp [oQ,Nat.mod_one]
 |i+1,h=>by
  unfold oQ;rw [EM fun j hj=>h j (by omega)];have h1:s.getD (a+1+i) 0= .ofNat (n>>>(8*i) % 256):=by rw [qa9,h i (by omega)];rfl
  rw [h1,qdy (show n>>>(8*i) % 256<256 by omega),Nat.or_comm,←Nat.shiftLeft_add_eq_or_of_lt (qbE _ (qcM _)),qex,qbn,show 8*(i+1)=8*i+8 by omega,qes,show(2:Nat)^8=256 from rfl,Nat.mod_mul,Nat.mul_comm (n/2^(8*i) % 256),qdt]
theorem jy (n:Nat) (hn:n<18446744073709551616):(cK n).length≤9:=by
 have:=pP hn;rw [rY];unfold jY;split<;>omega
theorem x_ (n:Nat):0<(cK n).length:=by
 rw [rY];unfold jY;split<;>omega
theorem lr {s r:List UInt8} {a:Nat} (hn:n<18446744073709551616) (h:s.drop a=cK n++r):tG s a=(n,a+(cK n).length,0)∧s.drop (a+(cK n).length)=r∧a+(cK n).length≤s.length:=by
 have hr:s.drop (a+(cK n).length)=r:=by rw [←List.drop_drop,h,List.drop_left]
 have hlen:s.length-a=(cK n).length+r.length:=by rw [←qc3,h,qar]
 have hg:∀j x,(cK n)[j]?=some x→s[a+j]?=some x:=fun j x hx=>by
  rw [←qcc,h,qaJ (qap.1 hx).1];exact hx
 have hpos:=x_ n;refine⟨?_,hr,by omega⟩;unfold tG;rw [if_neg (by omega)];by_cases h248:n<248
 ·have e:cK n=[.ofNat n]:=by unfold cK;rw [if_pos h248]
  have h0:(s.getD a 0).toNat=n:=by
   rw [qa9,show s[a]?=some (.ofNat n) from hg 0 (.ofNat n) (by rw [e];rfl)];exact qdy (show n<256 by omega)
  rw [h0,if_pos h248,e];rfl
 ·have e:cK n= .ofNat (247+bX n)::rV n (bX n):=by unfold cK;rw [if_neg h248]
  have hl:=pP hn;have el:(cK n).length=1+bX n:=by rw [e,qaA,i_];omega
  have hb:gD n=n.log2+1:=by unfold gD;rw [if_neg (by omega)]
  have hlp:0<bX n:=by unfold bX;omega
  have h0:(s.getD a 0).toNat=247+bX n:=by
   rw [qa9,show s[a]?=some (.ofNat (247+bX n)) from hg 0 _ (by rw [e];rfl)];exact qdy (show 247+bX n<256 by omega)
  have hlt:n<2^(8*bX n):=qaD ((qer (by omega)).1 (qbP n.log2)) (qbz (by omega) (by unfold bX;omega));have hgs:oQ s a (bX n)=n:=by
   rw [EM fun j hj=>?_,qbL hlt];rw [qck];exact hg (1+j) _ (by rw [e,qdt 1 j,qav];exact Jz n hj)
  rw [h0,if_neg (by omega),show 247+bX n-247=bX n by omega,if_neg (by omega),hgs,if_pos (by unfold jY;rw [if_neg h248]),el,qck]
def ky (i:Nat) (a:cJ):List UInt8:=a.byte::(cK a.out++cK (i-a.to))
def lu (s:aZ):List UInt8:=if s.fin then cK (2*s.arcs.length+1)++cK s.out else cK (2*s.arcs.length)
def Gs (i:Nat) (s:aZ):List UInt8:=lu s++s.arcs.flatMap (ky i)
def jC:Nat→List aZ→List UInt8
 |_,[]=>[]
 |i,s::M=>Gs i s++jC (i+1) M
theorem BK:∀(M:List aZ) (i:Nat) (s:aZ),jC i (M++[s])=jC i M++Gs (i+M.length) s
 | [],i,s=>by simp [jC]
 |x::M,i,s=>by
  rw [qbf,jC,BK M (i+1) s,jC,qbh,qaA,show i+1+M.length=i+(M.length+1) by omega]
def ib (n:Nat) (M:List aZ) (k:Nat):List UInt8:=[67,83,1]++(cK n++(cK M.length++(jC 0 M++cK k)))
def Lay (M:List aZ):Prop:=∀(i:Nat) (s:aZ),M[i]?=some s→s.arcs.length≤256∧(s.fin=false→s.out=0)∧s.out<18446744073709551616∧∀a∈s.arcs,a.to<i∧a.out<18446744073709551616
def b6 (a:cJ):List Value:=[.int .u8 (a.byte.toNat:Nat),.int .u64 a.out,.int .i64 a.to]
def iI (A:Mem) (l:List cJ) (x:Value):Prop:=∃b,az A 246 3 b (l.map b6) x
variable {A A':Mem}
theorem iI.kp {l:List cJ} {x:Value} (h:iI A l x) (k:Kp A A'):iI A' l x:=by
 obtain⟨b,h⟩:=h;exact⟨b,h.same k.1 (k.2 b)⟩
def cW (x:Value) (s:aZ):List Value:=[x,.bool s.fin,.int .u64 s.out]
variable {b:Nat} {ls:List (List Value)}
theorem az.dk {e:TypeId} {x:Value} (h:az A e n b ls x):x.cells.toList=[x]∧aJ x=true:=by
 rcases h with⟨rfl,-⟩|⟨k,c,rfl,-⟩<;>exact⟨rfl,rfl⟩
theorem az.j_ {e:TypeId} {x:Value} (h:az A e n b ls x) (h0:ls=[]→x= .slice none 0 0) (hn:A.next≤A'.next) (hg:ls≠ []→b<A.next→A'.get b=A.get b):az A' e n b ls x:=by
 by_cases hl:ls=[]
 ·exact .inl ⟨h0 hl,hl⟩
 ·exact az.same h hn (hg hl)
def dJ (A:Mem) (M:List aZ) (y:Value):Prop:=∃b rows,az A 186 3 b rows y∧rows.length=M.length∧∀(i:Nat) (s:aZ),M[i]?=some s→∃x,rows[i]?=some (cW x s)∧iI A s.arcs x
variable {M:List aZ} {y:Value}
theorem dJ.kp (h:dJ A M y) (k:Kp A A'):dJ A' M y:=by
 obtain⟨b,rows,h1,h2,h3⟩:=h;refine⟨b,rows,h1.same k.1 (k.2 b),h2,fun i s hs=>?_⟩;obtain⟨x,e1,e2⟩:=h3 i s hs;exact⟨x,e1,e2.kp k⟩
theorem oM (t:T Value) (n:Nat):ev t (.func n)= .ok (.func (.func n) ⟨[]⟩ ⟨[]⟩):=rfl
theorem i3:cE.ba 3=some (.int .i64):=DN
theorem i4:cE.ba 4=some .bool:=My
theorem i5:cE.ba 5=some (.int .u8):=mR
theorem i9:cE.ba 9=some .string:=ov
theorem i103:cE.ba 113=some (.int .u64):=gZ
theorem Yv:aR cE 3= .ok 1:=by kernel_rfl
theorem D7 {t:TypeId} {p:Bool} (h:(cE.ba t).map bQ=some p):∃d,cE.ba t=some d∧bQ d=p:=by
 cases hq:cE.ba t with
 |none=>rw [hq] at h;cases h
 |some d=>rw [hq] at h;exact⟨d,rfl,by simpa using h⟩
variable {v:Value}
theorem VB.lp {e t:TypeId} (h:VB A e b (.var 1) [v]) (ht:(cE.ba t).map bQ=some false):ag cE A.get t (pw b 0)= .ok v:=by
 obtain⟨d,hd,ha⟩:=D7 ht;exact h.ld rfl hd ha
theorem Hu:av cE 225 (pw b 0) 0= .ok (pw b 0):=by kernel_rfl
theorem xy:av cE 225 (pw b 0) 1= .ok (pw b 1):=by kernel_rfl
def pV (b:Nat):Value:=.pointer (some ⟨b,0,none⟩)
def td (A:Mem) (p:Nat) (s:List UInt8) (a:Nat):Prop:=VB A 225 p (.var 2) [aj s,.int .i64 a]
variable {p:Nat}
theorem td.kp {a:Nat} {s:List UInt8} (h:td A p s a) (k:Kp A A'):td A' p s a:=VB.kp h k
theorem td.s {a:Nat} {s:List UInt8} (h:td A p s a):ag cE A.get 9 (pw p 0)= .ok (aj s):=h.ld rfl i9 rfl
theorem td.a {a:Nat} {s:List UInt8} (h:td A p s a):ag cE A.get 3 (pw p 1)= .ok (.int .i64 a):=h.ld rfl i3 rfl
theorem td.go {a:Nat} {s:List UInt8} (h:td A p s a):∃A',aW cE A 3 (pw p 1) (.int .i64 b)= .ok A'∧td A' p s b∧A'.next=A.next∧∀z,z≠p→A'.get z=A.get z:=by
 obtain⟨A',h1,h2,h3,h4⟩:=aL (tb:=cE) (t:=3) (o:=1) (v:=.int .i64 b) Yv h.2 (by simp) rfl rfl;exact⟨A',h1,⟨by have:=h.1;omega,h2⟩,h3,h4⟩
def DU (p:Nat) (A A':Mem):Prop:=A.next≤A'.next∧∀z,z<A.next→z≠p→A'.get z=A.get z
theorem DU.refl (p:Nat) (A:Mem):DU p A A:=⟨qao _,fun _ _ _=>rfl⟩
theorem Kp.x (p:Nat) (h:Kp A A'):DU p A A':=⟨h.1,fun z hz _=>h.2 z hz⟩
variable {B C:Mem}
theorem DU.trans (h:DU p A B) (k:DU p B C):DU p A C:=⟨qaV h.1 k.1,fun z hz hp=>by rw [k.2 z (by have:=h.1;omega) hp,h.2 z hz hp]⟩
theorem SA {q a:Nat} {s:List UInt8} (h:td A p s a) (hq:VB A 223 q (.var 1) [pV p]) (hs:s.length<900000) (ha:a≤s.length):bg cE 238 [pV q] A (C0 (tG s a)) A:=by
 have l1:ag cE A.get 223 (pw q 0)= .ok (pV p):=hq.lp (by kernel_rfl);have l2:=h.s;have l3:=h.a;have kg:=fun ih=>X9 (ih:=ih) (A:=A) (show s.length<1000000 by omega) ha
 refine bm 60 (gF Tryz.func238) (by kernel_rfl) fun M=>?_
 simp (config:={maxSteps:=4000000}) (disch:=first|decide+kernel|omega|simp only [Wq,qal]) only [Tryz.f238,Aq,qaq,reduceIte,qal,qam,pV,l1,l2,l3,ak,aF,Hu,xy,kg,C0,qau,qav,Fq,aA []]<;>rfl
variable {r:Nat}
theorem SB {q lo hi:Nat} (hq:VB A 113 q (.var 1) [.int .u64 lo]) (hr:VB A 113 r (.var 1) [.int .u64 hi]) (h:lo≤n∧n≤hi):bg cE 240 [.int .u64 n,pV q,pV r] A (iN 0) A:=by
 have l1:ag cE A.get 113 (pw q 0)= .ok (.int .u64 lo):=hq.ld rfl i103 rfl;have l2:ag cE A.get 113 (pw r 0)= .ok (.int .u64 hi):=hr.ld rfl i103 rfl;have e1:¬n<lo:=by omega
 have e2:¬hi<n:=by omega
 refine bm 60 (gF Tryz.func240) (by kernel_rfl) fun M=>?_
 simp (config:={maxSteps:=4000000}) (disch:=first|decide+kernel|omega|simp only [Wq,qal]) only [Tryz.f240,Aq,qaq,reduceIte,qal,qam,pV,l1,l2,cT,bY,e1,e2]<;>rfl
theorem j9 {a lo hi:Nat} {s r:List UInt8} (h:td A p s a) (hs:s.length<900000) (hn:n<18446744073709551616) (hd:s.drop a=cK n++r) (hr:lo≤n∧n≤hi):
 ∃v A',bg cE 188 [pV p,.int .u64 lo,.int .u64 hi] A v A'∧v= .int .u64 n∧td A' p s (a+(cK n).length)∧DU p A A':=by
 obtain⟨hg,-,hle⟩:=lr hn hd;have ha:a≤s.length:=by omega
 have kB:=Kp.alloc A (aa 223 [pV p]);have v1:=ay A 223 [pV p];generalize hB:A.alloc (aa 223 [pV p])=B at kB v1;have kC:=Kp.alloc B (aa 113 [.int .u64 lo]);have v2:=ay B 113 [.int .u64 lo];generalize hC:B.alloc (aa 113 [.int .u64 lo])=C at kC v2;have kD:=Kp.alloc C (aa 113 [.int .u64 hi]);have v3:=ay C 113 [.int .u64 hi];generalize hD:C.alloc (aa 113 [.int .u64 hi])=D at kD v3;have v1:=v1.kp (kC.trans kD);have v2:=v2.kp kD;have kAD:=kB.trans (kC.trans kD);have hD':=h.kp kAD;obtain⟨g1,h1⟩:=SA hD' v1 hs ha;obtain⟨g2,h2⟩:=SB v2 v3 hr;rw [hg] at h1;have l1:ag cE D.get 223 (pw A.next 0)= .ok (pV p):=v1.lp (by kernel_rfl);obtain⟨E,sE,rE,nE,fE⟩:=hD'.go (b:=a+(cK n).length);have h206:bg cE 237 [pV p,.func (.func 238) ⟨[]⟩ ⟨[pV A.next]⟩,.func (.func 240) ⟨[]⟩ ⟨[pV B.next,pV C.next]⟩] D (.int .u64 n) E:=by
  simp only [pV,C0] at*;refine aT (g1+g2) 60 (gF Tryz.func237) (by kernel_rfl) fun M hM=>?_
  simp (config:={maxSteps:=4000000}) (disch:=first|decide+kernel|omega|simp only [Wq,qal]) only [Tryz.f237,Aq,qaq,reduceIte,qal,qam,h1,h2,qau,qav,ak,aF,xy,sE]<;>rfl
 obtain⟨g3,h3⟩:=h206;refine⟨_,E,?_,rfl,rE,(kAD.x p).trans ⟨by omega,fun z _ hz=>fE z hz⟩⟩;simp only [pV] at*;refine aT (g3) 60 (gF Tryz.func188) (by kernel_rfl) fun M hM=>?_
 simp (disch:=first|decide+kernel|omega) only [Tryz.f188,Aq,qal,dj,hB,hC,hD,l1,h3,aY]<;>rfl
theorem Sz {q a:Nat} {c:UInt8} {s r:List UInt8} (h:td A p s a) (hq:VB A 223 q (.var 1) [pV p]) (hs:s.length<900000) (hd:s.drop a=c::r):bg cE 236 [pV q] A (.tuple ⟨[bN c.toNat,iN (a+1),iN 0]⟩) A:=by
 have hlt:a<s.length:=by
  rcases qaZ a s.length with h|h
  ·exact h
  ·rw [qd3.2 h] at hd;cases hd
 have hc:s.getD a 0=c:=by
  have:s[a]?=some c:=by rw [←qa8 a,←qcc,hd];rfl
  rw [qa9,this];rfl
 have l1:ag cE A.get 223 (pw q 0)= .ok (pV p):=hq.lp (by kernel_rfl);have l2:=h.s;have l3:=h.a;have hl:=cP (tb:=cE) (t:=9) (l:=s) i9;have hx:=dQ (tb:=cE) (t:=9) (kd:=.i64) i9 hlt;rw [hc] at hx;have hne:¬a=s.length:=by omega
 have a1:aM .add .i64 ((a:Nat):Int) ((1:Nat):Int)= .ok (iN (a+1)):=bf (aV (by omega));refine bm 60 (gF Tryz.func236) (by kernel_rfl) fun M=>?_
 simp (config:={maxSteps:=4000000}) (disch:=first|decide+kernel|omega|simp only [Wq,qal]) only [Tryz.f236,Aq,qaq,reduceIte,qal,qam,pV,l1,l2,l3,ak,aF,Hu,xy,hl,hx,hne,a1,Fq,aA []]<;>rfl
theorem FD {a f:Nat} {y:List Value} {c:UInt8} {s r:List UInt8} (h:td A p s a) (hs:s.length<900000) (hd:s.drop a=c::r) (hf:∀B,Kp A B→bg cE f (bN c.toNat::y) B (iN 0) B):
 ∃v A',bg cE 186 [pV p,.func (.func f) ⟨[]⟩ ⟨y⟩] A v A'∧v=bN c.toNat∧td A' p s (a+1)∧DU p A A':=by
 have kB:=Kp.alloc A (aa 223 [pV p]);have v1:=ay A 223 [pV p];generalize hB:A.alloc (aa 223 [pV p])=B at kB v1;have hB':=h.kp kB;obtain⟨g1,h1⟩:=Sz hB' v1 hs hd;obtain⟨g2,h2⟩:=hf B kB;have l1:ag cE B.get 223 (pw A.next 0)= .ok (pV p):=v1.lp (by kernel_rfl);obtain⟨E,sE,rE,nE,fE⟩:=hB'.go (b:=a+1);have h204:bg cE 235 [pV p,.func (.func 236) ⟨[]⟩ ⟨[pV A.next]⟩,.func (.func f) ⟨[]⟩ ⟨y⟩] B (bN c.toNat) E:=by
  simp only [pV] at*;refine aT (g1+g2) 60 (gF Tryz.func235) (by kernel_rfl) fun M hM=>?_
  simp (config:={maxSteps:=4000000}) (disch:=first|decide+kernel|omega|simp only [Wq,qal]) only [Tryz.f235,Aq,qaq,reduceIte,qal,qam,h1,h2,qau,qav,ak,aF,xy,sE]<;>rfl
 obtain⟨g3,h3⟩:=h204;refine⟨_,E,?_,rfl,rE,(kB.x p).trans ⟨by omega,fun z _ hz=>fE z hz⟩⟩;simp only [pV] at*;refine aT (g3) 60 (gF Tryz.func186) (by kernel_rfl) fun M hM=>?_
 simp (disch:=first|decide+kernel|omega) only [Tryz.f186,Aq,qal,dj,hB,l1,h3,aY]<;>rfl
theorem SC {c:UInt8}:bg cE 241 [bN c.toNat] A (iN 0) A:=by
 refine bm 60 (gF Tryz.func241) (by kernel_rfl) fun M=>?_
 simp (disch:=first|decide+kernel|omega) only [Tryz.f241,Aq,qal]<;>rfl
variable {i:Nat}
theorem Sy {q:Nat} {c:UInt8} (hq:VB A 3 q (.var 1) [.int .i64 i]) (hi:i<3) (hc: [67,83,1][i]?=some c):bg cE 187 [bN c.toNat,pV q] A (iN 0) A:=by
 have l1:ag cE A.get 3 (pw q 0)= .ok (.int .i64 i):=hq.ld rfl i3 rfl;have hx:=dQ (tb:=cE) (t:=9) (kd:=.i64) (l:=[67,83,1]) i9 (i:=i) hi;have e:([67,83,1]:List UInt8).getD i 0=c:=by rw [qa9,hc];rfl
 rw [e] at hx;refine bm 60 (gF Tryz.func187) (by kernel_rfl) fun M=>?_
 simp (disch:=first|decide+kernel|omega) only [Tryz.f187,Aq,qal,pV,l1,hx]<;>rfl
end Go.Proofs.YtjoceidiioppiaaGreatDoor.sto
end
