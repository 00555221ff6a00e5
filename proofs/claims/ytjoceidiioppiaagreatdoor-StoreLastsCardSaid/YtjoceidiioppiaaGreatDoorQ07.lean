/- The abstract machine, the walk of the law and its plain laws, made small by a program; part 7: no conditions but those in each theorem. -/
import Derived.Test.YtjoceidiioppiaaGreatDoorQ06
set_option maxHeartbeats 16000000
set_option maxRecDepth 100000
set_option linter.unusedSimpArgs false
set_option linter.unusedVariables false
noncomputable section
open Nat renaming reduceEqDiff→qal,reduceAdd→qam,le_refl→qao,ble→qaq,beq→qaw,blt→qax,zero_le→qaB,lt_of_lt_of_le→qaD,le_of_ble_eq_true→qaG,blt_eq→qaH,le_trans→qaV,lt_or_ge→qaZ,zero_add→qa1,add_zero→qa8,lt_of_le_of_lt→qbj,sub_self→qbq,min_eq_left→qbr,add_sub_cancel→qbW,lt_irrefl→qdh,reduceMul→qeu,le_of_lt→qeF,sub_le→qeH
open List renaming getElem?_eq_getElem→qan,getElem?_eq_some_iff→qap,length_append→qar,length_map→qas,getElem?_cons_zero→qau,getElem?_cons_succ→qav,mem_cons_of_mem→qay,mem_cons_self→qaz,length_cons→qaA,take_succ_eq_append_getElem→qaC,length_take→qaE,getElem?_append_right→qaF,getElem?_append_left→qaJ,mem_cons→qaK,getElem?_map→qaN,length_eq_zero_iff→qaP,length_set→qaQ,take_length→qaR,length_singleton→qaS,length_nil→qaT,mem_singleton→qaY,mem_map→qa3,length_pos_iff→qa6,getD_eq_getElem?_getD→qa9,not_mem_nil→qbb,map_append→qbe,cons_append→qbf,getElem_mem→qbg,append_assoc→qbh,drop_eq_getElem_cons→qbi,map_eq_nil_iff→qbk,flatMap_cons→qbl,getElem?_take→qbm,filter_cons→qbp,append_nil→qbt,foldl_cons→qbu,nil_append→qbv,map_cons→qbx,getElem?_set→qbB,mem_append→qbF,mem_of_mem_take→qbH,getElem_of_mem→qbM,mem_append_right→qbU,mem_filter→qbV,flatten_cons→qb3,length_reverse→qb6,getElem?_drop→qcc,findIdx?_eq_some_iff_getElem→qco,map_nil→qcp,take_of_length_le→qcq,take_append_drop→qcx,take_zero→qcy,length→qcE,take_succ_cons→qc0,getElem_map→qc2,length_drop→qc3,set_append_right→qdd,exists_cons_of_ne_nil→qdg,exists_mem_of_ne_nil→qdl,drop_eq_nil_of_le→qdK,nodup_append→qdR,drop_length→qd4,mem_append_left→qd5,reverse_cons→qeq,map_set→qeD
open Bool renaming and_eq_true→qaO
open Option.some renaming injEq→qaX
open List.cons renaming injEq→qa4
open Option renaming map_some→qa5,getD_some→qbG,map_none→qdG,ne_none_iff_exists'→qd8,getD_none→qey
open Go.Proofs.Tryz renaming f119→qbw,f120→qbO,f116→qcm,f63→qcv,f64→qcP,f117→qcV,f118→qcW,f115→qdn,f122→qdo,f21→qdw,f178→qdH,f177→qdY,f221→qdZ
open Classical renaming byContradiction→qca
open UInt8 renaming toNat_inj→qdf
namespace Go.Proofs.YtjoceidiioppiaaGreatDoor.sto
open Go.Am Go.Mdl Go.Sto
theorem tZ:af.ba 177=some (.map 9 3):=by kernel_rfl
variable {b:Nat}
theorem xz:av af 179 (pw b 0) 0= .ok (pw b 0):=by kernel_rfl
theorem xA:av af 179 (pw b 0) 1= .ok (pw b 1):=by kernel_rfl
def gV:List (List UInt8)→Nat→List MapEntry
 | [],_=>[]
 |n::ns,o=>⟨aj n,.int .i64 o,o⟩::gV ns (o+1)
theorem xT (w:List UInt8):∀(ns:List (List UInt8)) (o j:Nat),w∉ns→findF (aj w) (gV ns o) j=some none
 | [],o,j,_=>rfl
 |n::ns,o,j,h=>by
  rw [qaK,not_or] at h;unfold gV findF;simp only [wg,h.1,decide_false];exact xT w ns (o+1) (j+1) h.2
theorem xS (w:List UInt8):∀(ns:List (List UInt8)) (o:Nat),gV (ns++[w]) o=gV ns o++[⟨aj w,.int .i64 (o+ns.length:Nat),o+ns.length⟩]
 | [],o=>rfl
 |n::ns,o=>by
  rw [qbf,gV,xS w ns (o+1),gV,qbf,qaA,show o+1+ns.length=o+(ns.length+1) by omega]
variable {A:Mem} {mk:Nat} {ks:List (List UInt8)} {w:List UInt8}
theorem E_ (h:A.get mk=some (.map (gV ks 0) ks.length)) (hw:w∉ks):
 fZ af A.get 177 (.map (some mk)) (aj w) true= .ok (.tuple ⟨[iN 0,.bool false]⟩):=by
 have hk:eQ af 9 (aj w)=true:=by unfold eQ;rw [u9];rfl
 unfold fZ;simp only [tZ,hk,cond_true,iU,h,R.aw,xT w ks 0 0 hw,qA]
theorem Kl (h:A.get mk=some (.map (gV ks 0) ks.length)) (hw:w∉ks):
 c_ af A 177 (.map (some mk)) (aj w) (iN ks.length)= .ok (A.set mk (.map (gV (ks++[w]) 0) (ks++[w]).length)):=by
 have hk:eQ af 9 (aj w)=true:=by unfold eQ;rw [u9];rfl
 unfold c_;simp only [tZ,hk,cond_true,h,xT w ks 0 0 hw];rw [xS,qa1,qar];rfl
def QJ (C:Mem) (p mk:Nat) (ks:List (List UInt8)) (F:Mem):Prop:=∃b x rows,VB F 179 p (.var 2) [x,.map (some mk)]∧F.get mk=some (.map (gV ks 0) ks.length)∧az F 186 3 b rows x∧rows.length=ks.length∧(C.next≤b∧(ks=[]→x= .slice none 0 0)∧p≠mk∧p<C.next∧mk<C.next)∧C.next≤F.next∧∀z,z<C.next→z≠p→z≠mk→F.get z=C.get z
variable {C:Mem} {p:Nat}
theorem QJ.kp {F G:Mem} (h:QJ C p mk ks F) (k:Kp F G):QJ C p mk ks G:=by
 obtain⟨b,x,rows,h1,h2,h3,h4,h5,h6,h7⟩:=h;exact⟨b,x,rows,h1.kp k,by rw [k.2 _ (by omega)];exact h2,h3.same k.1 (k.2 b),h4,h5,qaV h6 k.1,fun z hz a b=>by rw [k.2 z (by omega),h7 z hz a b]⟩
theorem DE {x:Value} {s:aZ} (h:iI A s.arcs x):∀v∈cW x s,aJ v=true:=by
 obtain⟨b,h⟩:=h;intro v hv;simp only [cW,qaK,qbb,or_false] at hv;rcases hv with rfl|rfl|rfl
 ·exact(az.dk h).2
 ·rfl
 ·rfl
noncomputable def eZ:Code:=qbw.body.getD .skip
theorem Ct:qbw.body=some (.seq (sub eZ [0]) (.seq (sub eZ [1,0]) (.seq (sub eZ [1,1,0]) (.seq (sub eZ [1,1,1,0]) (.seq (sub eZ [1,1,1,1,0]) (sub eZ [1,1,1,1,1])))))):=by kernel_rfl
theorem GN:sub eZ [1,1,1,0]= .seq (sub eZ [1,1,1,0,0]) (sub eZ [1,1,1,0,1]):=by kernel_rfl
theorem GO:sub eZ [1,1,1,0,1]= .cond (.tmp 20) (.seq (sub eZ [1,1,1,0,1,0,0]) (.seq (sub eZ [1,1,1,0,1,0,1,0]) (sub eZ [1,1,1,0,1,0,1,1]))) (sub eZ [1,1,1,0,1,1]):=by kernel_rfl
theorem H9 {s:aZ} {x:Value} (hR:QJ C p mk ks A) (hx:iI A s.arcs x) (hf:Fit s) (hl:s.arcs.length≤256) (hn:fm s∉ks) (hk:ks.length<1000000):
 ∃v A',bg af 119 [pw p 0,.agg ⟨cW x s⟩] A v A'∧v=iN ks.length∧QJ C p mk (ks++[fm s]) A':=by
 refine cF (aq Tryz.func119) Ct (by kernel_rfl) ?_;have kB:=Kp.alloc A (aa 186 (cW x s));have vB:=ay A 186 (cW x s);have h1c:=DE hx;obtain⟨d,hd1,hd2⟩:=a8 (t:=186) (p:=true) (by kernel_rfl);apply W.q
 ·intro M;simp (disch:=first|decide+kernel|omega) only [eZ,qbw,Aq,qal,au];rfl
 have nB:(A.alloc (aa 186 (cW x s))).next=A.next+1:=ae _ _
 generalize A.alloc (aa 186 (cW x s))=B at kB vB nB;have lB:ag af B.get 186 (pw A.next 0)= .ok (.agg ⟨cW x s⟩):=aI hd1 hd2 (l:=cW x s) jD vB.2;obtain⟨v,D,⟨g1,h1⟩,rfl,kD⟩:=Dx (hx.kp kB) hf hl;have hRD:=(hR.kp kB).kp kD;have vD:=vB.kp kD;have lD:ag af D.get 186 (pw A.next 0)= .ok (.agg ⟨cW x s⟩):=aI hd1 hd2 (l:=cW x s) jD vD.2;have nD:=kD.1;obtain⟨b,y,rows,q1,q2,q3,q4,⟨q5,q6,q7,q8,q9⟩,q10,q11⟩:=id hRD;have lm:ag af D.get 177 (pw p 1)= .ok (.map (some mk)):=q1.ld rfl tZ rfl;have ly:ag af D.get 112 (pw p 0)= .ok y:=q1.ld rfl fy rfl;have lx:=az.len (tb:=af) (t:=112) q3 fy;rw [q4] at lx;have lk:=E_ q2 hn;have up:=Kl q2 hn;generalize hE:D.set mk (.map (gV (ks++[fm s]) 0) (ks++[fm s]).length)=E at up;have nE:E.next=D.next:=by rw [←hE];exact aO _ _ _
 have fE:∀z,z≠mk→E.get z=D.get z:=fun z hz=>by rw [←hE,dH,if_neg hz]
 have gE:E.get mk=some (.map (gV (ks++[fm s]) 0) (ks++[fm s]).length):=by rw [←hE,dH,if_pos rfl]
 have hmD:∀(e:TypeId) (z:Nat) (k:Kd) (l:List Value),VB D e z k l→z≠mk:=fun e z k l h=>h.gj q2
 have lE:ag af E.get 186 (pw A.next 0)= .ok (.agg ⟨cW x s⟩):=aI hd1 hd2 (l:=cW x s) jD (vD.2.same (fE _ (hmD _ _ _ _ vD)));have qE:=q1.2.same (fE p q7);have lyE:ag af E.get 112 (pw p 0)= .ok y:=aQ fy rfl qE rfl;obtain⟨ti,t1,t2,t3⟩:=T0;have q3E:az (E.alloc (aa 186 (cW x s))) 186 3 b rows y:=q3.same (by rw [ae];omega) fun h=>by rw [aB (by omega),fE b (by omega)]
 obtain⟨y',F,happ,hs3,hn3,hf3⟩:=az.append (tb:=af) (st:=112) (xt:=112) q3E fy fy T8 t1 t2 t3 (by omega) (by omega) (by omega) (ax E _) rfl h1c;rw [ae] at hs3 hn3 hf3;have hpb:p=b→y= .slice none 0 0:=fun e=>by omega
 have qF:dw F 179 p (.var 2) [y,.map (some mk)]:=qE.same (by rw [hf3 p hpb (by omega),aB (by omega)]);obtain⟨G,sG,vG,nG,fG⟩:=aL (tb:=af) (o:=0) (v:=y') J4 qF (by simp) (az.dk hs3).1 (az.dk hs3).2;apply W.qG (g1)
 ·intro M hM;simp (disch:=first|decide+kernel|omega) only [eZ,qbw,Aq,qal,lB,h1];rfl
 apply W.q
 ·intro M;simp (disch:=first|decide+kernel|omega) only [eZ,qbw,Aq,qal,ak,aF,xA,lm,fS,lk,qau,qav];rfl
 rw [GN];apply W.seq;apply W.q
 ·intro M;simp (disch:=first|decide+kernel|omega) only [eZ,qbw,Aq,qal];rfl
 rw [GO];refine W.cond (p:=true) rfl (fun _=>?_) (fun h=>by cases h);apply W.q
 ·intro M;simp (disch:=first|decide+kernel|omega) only [eZ,qbw,Aq,qal,ak,aF,xz,ly,lx];rfl
 apply W.q
 ·intro M;simp (disch:=first|decide+kernel|omega) only [eZ,qbw,Aq,qal,ak,aF,xA,lm,fi,up];rfl
 apply W.run 20
 ·intro M;simp (config:={maxSteps:=4000000}) (disch:=first|decide+kernel|omega|simp only [Wq,qal]) only [eZ,qbw,Aq,qaq,reduceIte,qal,qam,ak,aF,xz,lyE,lE,TF,happ,sG,Fq,aA []];rfl
 apply W.q
 ·intro M;simp (disch:=first|decide+kernel|omega) only [eZ,qbw,Aq,qal];rfl
 apply W.run 20
 ·intro M;simp (disch:=first|decide+kernel|omega) only [eZ,qbw,Aq,qal];rfl
 have hmF:mk≠p:=Ne.symm q7;have hFk:∀z,z<D.next→z≠p→z≠mk→z≠b→G.get z=D.get z:=fun z h1 h2 h3 h4=>by rw [fG z h2,hf3 z (fun e=>absurd e h4) (by omega),aB (by omega),fE z h3]
 have hbk:mk≠b:=by omega
 refine⟨by simp,rfl,_,(by simp only [qbw,Aq,qal]<;>rfl),rfl,⟨E.next+1,y',_,⟨by show p<G.next;omega,vG⟩,?_,hs3.same (by show F.next≤G.next;omega) (fun _=>fG _ (by omega)),by rw [qar,qar,q4];rfl,⟨by omega,fun h=>by simp at h,q7,q8,q9⟩,by show C.next≤G.next;omega,fun z hz h2 h3=>?_⟩⟩
 ·show G.get mk=_;rw [fG mk hmF,hf3 mk (fun e=>absurd e hbk) (by omega),aB (by omega),gE]
 ·show G.get z=_;rw [hFk z (by omega) h2 h3 (by omega),q11 z hz h2 h3]
def wB (F:Mem) (e:TypeId) (m p mk b:Nat) (rest:List Value) (ks:List (List UInt8)) (rows:List (List Value)) (x:Value):Prop:=VB F e p (.var m) (x:: .map (some mk)::rest)∧(mk<F.next∧F.get mk=some (.map (gV ks 0) ks.length))∧az F 186 3 b rows x∧rows.length=ks.length∧(rows=[]→x= .slice none 0 0)
variable {m:Nat}
theorem wB.kp {F G:Mem} {e:TypeId} {rest:List Value} {rows:List (List Value)} {x:Value} (h:wB F e m p mk b rest ks rows x) (k:Kp F G):wB G e m p mk b rest ks rows x:=by
 obtain⟨h1,⟨h2,h3⟩,h4,h5⟩:=h;exact⟨h1.kp k,⟨qaD h2 k.1,by rw [k.2 _ h2];exact h3⟩,h4.same k.1 (k.2 b),h5⟩
variable {y:Value}
theorem FO {e:TypeId} {rest:List Value} {rows:List (List Value)} {s:aZ} {x:Value} (he:e≠186) (hR:wB A e m p mk b rest ks rows y) (hx:iI A s.arcs x) (hf:Fit s) (hl:s.arcs.length≤256) (hn:fm s∉ks) (hk:ks.length<1000000):
 ∃v A',bg af 119 [pw p 0,.agg ⟨cW x s⟩] A v A'∧v=iN ks.length∧∃b' y',wB A' e m p mk b' rest (ks++[fm s]) (rows++[cW x s]) y'∧A.next≤b'∧A.next≤A'.next∧∀z,z<A.next→z≠p→z≠mk→(rows≠ []→z≠b)→A'.get z=A.get z:=by
 refine cF (aq Tryz.func119) Ct (by kernel_rfl) ?_;have kB:=Kp.alloc A (aa 186 (cW x s));have vB:=ay A 186 (cW x s);have h1c:=DE hx;obtain⟨d,hd1,hd2⟩:=a8 (t:=186) (p:=true) (by kernel_rfl);apply W.q
 ·intro M;simp (disch:=first|decide+kernel|omega) only [eZ,qbw,Aq,qal,au];rfl
 have nB:(A.alloc (aa 186 (cW x s))).next=A.next+1:=ae _ _
 generalize A.alloc (aa 186 (cW x s))=B at kB vB nB;have lB:ag af B.get 186 (pw A.next 0)= .ok (.agg ⟨cW x s⟩):=aI hd1 hd2 (l:=cW x s) jD vB.2;obtain⟨v,D,⟨g1,h1⟩,rfl,kD⟩:=Dx (hx.kp kB) hf hl;have hRD:=(hR.kp kB).kp kD;have vD:=vB.kp kD;have lD:ag af D.get 186 (pw A.next 0)= .ok (.agg ⟨cW x s⟩):=aI hd1 hd2 (l:=cW x s) jD vD.2;have nD:=kD.1;obtain⟨q1,⟨q9,q2⟩,q3,q4,q5⟩:=id hRD;have q7:p≠mk:=q1.gj q2;have hpA:p<A.next:=by obtain⟨h,-⟩:=hR;exact h.1
 have hmA:mk<A.next:=by obtain⟨-,⟨h,-⟩,-⟩:=hR;exact h
 have hBA:=kB.1;have lm:ag af D.get 177 (pw p 1)= .ok (.map (some mk)):=q1.ld rfl tZ rfl;have ly:ag af D.get 112 (pw p 0)= .ok y:=q1.ld rfl fy rfl;have lx:=az.len (tb:=af) (t:=112) q3 fy;rw [q4] at lx;have lk:=E_ q2 hn;have up:=Kl q2 hn;generalize hE:D.set mk (.map (gV (ks++[fm s]) 0) (ks++[fm s]).length)=E at up;have nE:E.next=D.next:=by rw [←hE];exact aO _ _ _
 have fE:∀z,z≠mk→E.get z=D.get z:=fun z hz=>by rw [←hE,dH,if_neg hz]
 have gE:E.get mk=some (.map (gV (ks++[fm s]) 0) (ks++[fm s]).length):=by rw [←hE,dH,if_pos rfl]
 have hmD:∀(e:TypeId) (z:Nat) (k:Kd) (l:List Value),VB D e z k l→z≠mk:=fun e z k l h=>h.gj q2
 have lE:ag af E.get 186 (pw A.next 0)= .ok (.agg ⟨cW x s⟩):=aI hd1 hd2 (l:=cW x s) jD (vD.2.same (fE _ (hmD _ _ _ _ vD)));have qE:=q1.2.same (fE p q7);have lyE:ag af E.get 112 (pw p 0)= .ok y:=aQ fy rfl qE rfl;obtain⟨ti,t1,t2,t3⟩:=T0;have q3E:az (E.alloc (aa 186 (cW x s))) 186 3 b rows y:=az.j_ q3 q5 (by rw [ae];omega) fun h0 h=>by rw [aB (by omega),fE b (Ne.symm (az.gj q3 q2 h0))]
 obtain⟨y',F,happ,hs3,hn3,hf3⟩:=az.append (tb:=af) (st:=112) (xt:=112) q3E fy fy T8 t1 t2 t3 (by omega) (by omega) (by omega) (ax E _) rfl h1c;rw [ae] at hs3 hn3 hf3;have hbb:∀z,(rows≠ []→z≠b)→z=b→y= .slice none 0 0:=fun z h e=>qca fun hy=>h (fun h0=>hy (q5 h0)) e
 have hpb:=hbb p fun h0=>az.vo q3 q1 he h0
 have qF:dw F e p (.var m) (y:: .map (some mk)::rest):=qE.same (by rw [hf3 p hpb (by omega),aB (by omega)]);obtain⟨G,sG,vG,nG,fG⟩:=aL (tb:=af) (o:=0) (v:=y') J4 qF (by simp) (az.dk hs3).1 (az.dk hs3).2;apply W.qG (g1)
 ·intro M hM;simp (disch:=first|decide+kernel|omega) only [eZ,qbw,Aq,qal,lB,h1];rfl
 apply W.q
 ·intro M;simp (disch:=first|decide+kernel|omega) only [eZ,qbw,Aq,qal,ak,aF,xA,lm,fS,lk,qau,qav];rfl
 rw [GN];apply W.seq;apply W.q
 ·intro M;simp (disch:=first|decide+kernel|omega) only [eZ,qbw,Aq,qal];rfl
 rw [GO];refine W.cond (p:=true) rfl (fun _=>?_) (fun h=>by cases h);apply W.q
 ·intro M;simp (disch:=first|decide+kernel|omega) only [eZ,qbw,Aq,qal,ak,aF,xz,ly,lx];rfl
 apply W.q
 ·intro M;simp (disch:=first|decide+kernel|omega) only [eZ,qbw,Aq,qal,ak,aF,xA,lm,fi,up];rfl
 apply W.run 20
 ·intro M;simp (config:={maxSteps:=4000000}) (disch:=first|decide+kernel|omega|simp only [Wq,qal]) only [eZ,qbw,Aq,qaq,reduceIte,qal,qam,ak,aF,xz,lyE,lE,TF,happ,sG,Fq,aA []];rfl
 apply W.q
 ·intro M;simp (disch:=first|decide+kernel|omega) only [eZ,qbw,Aq,qal];rfl
 apply W.run 20
 ·intro M;simp (disch:=first|decide+kernel|omega) only [eZ,qbw,Aq,qal];rfl
 have hmF:mk≠p:=Ne.symm q7;have hFk:∀z,z<D.next→z≠p→z≠mk→(rows≠ []→z≠b)→G.get z=D.get z:=fun z h1 h2 h3 h4=>by rw [fG z h2,hf3 z (hbb z h4) (by omega),aB (by omega),fE z h3]
 have hbk:=hbb mk fun h0=>az.gj q3 q2 h0
 refine⟨by simp,rfl,_,(by simp only [qbw,Aq,qal]<;>rfl),rfl,E.next+1,y',⟨⟨by show p<G.next;omega,vG⟩,⟨by show mk<G.next;omega,?_⟩,hs3.same (by show F.next≤G.next;omega) (fun _=>fG _ (by omega)),by rw [qar,qar,q4];rfl,fun h=>by simp at h⟩,by omega,by show A.next≤G.next;omega,fun z hz h2 h3 h4=>?_⟩
 ·show G.get mk=_;rw [fG mk hmF,hf3 mk hbk (by omega),aB (by omega),gE]
 ·show G.get z=_;rw [hFk z (by omega) h2 h3 h4,kD.2 z (by omega),kB.2 z hz]
theorem EZ (w:List UInt8):∀(ns:List (List UInt8)) (o j i:Nat),ns[i]?=some w→(∀k,k<i→ns[k]?≠some w)→findF (aj w) (gV ns o) j=some (some (j+i,.int .i64 (o+i:Nat)))
 | [],o,j,i,h,_=>by simp at h
 |n::ns,o,j,0,h,_=>by
  cases h;unfold gV findF;simp only [wg,decide_true];rfl
 |n::ns,o,j,i+1,h,hk=>by
  have h0:¬w=n:=fun e=>hk 0 (by omega) (by rw [e];rfl)
  unfold gV findF;simp only [wg,h0,decide_false];show findF _ _ (j+1)=_;rw [EZ w ns (o+1) (j+1) i (by simpa using h) fun k hki=>by simpa using hk (k+1) (by omega),show j+1+i=j+(i+1) by omega,show o+1+i=o+(i+1) by omega]
variable {i:Nat}
theorem FN {e:TypeId} {rest:List Value} {rows:List (List Value)} {s:aZ} {x:Value} (hR:wB A e m p mk b rest ks rows y) (hx:iI A s.arcs x) (hf:Fit s) (hl:s.arcs.length≤256) (hi:ks[i]?=some (fm s)) (hk:∀k,k<i→ks[k]?≠some (fm s)):
 ∃v A',bg af 119 [pw p 0,.agg ⟨cW x s⟩] A v A'∧v=iN i∧Kp A A':=by
 refine cF (aq Tryz.func119) Ct (by kernel_rfl) ?_;have kB:=Kp.alloc A (aa 186 (cW x s));have vB:=ay A 186 (cW x s);obtain⟨d,hd1,hd2⟩:=a8 (t:=186) (p:=true) (by kernel_rfl);apply W.q
 ·intro M;simp (disch:=first|decide+kernel|omega) only [eZ,qbw,Aq,qal,au];rfl
 generalize A.alloc (aa 186 (cW x s))=B at kB vB;have lB:ag af B.get 186 (pw A.next 0)= .ok (.agg ⟨cW x s⟩):=aI hd1 hd2 (l:=cW x s) jD vB.2;obtain⟨v,D,⟨g1,h1⟩,rfl,kD⟩:=Dx (hx.kp kB) hf hl;obtain⟨q1,⟨-,q2⟩,-⟩:=(hR.kp kB).kp kD;have lm:ag af D.get 177 (pw p 1)= .ok (.map (some mk)):=q1.ld rfl tZ rfl;have lk:fZ af D.get 177 (.map (some mk)) (aj (fm s)) true= .ok (.tuple ⟨[iN i,.bool true]⟩):=by
  have hk':eQ af 9 (aj (fm s))=true:=by unfold eQ;rw [u9];rfl
  unfold fZ;simp only [tZ,hk',cond_true,iU,q2,R.aw,EZ _ ks 0 0 i hi hk,qa1]
 apply W.qG (g1)
 ·intro M hM;simp (disch:=first|decide+kernel|omega) only [eZ,qbw,Aq,qal,lB,h1];rfl
 apply W.q
 ·intro M;simp (disch:=first|decide+kernel|omega) only [eZ,qbw,Aq,qal,ak,aF,xA,lm,fS,lk,qau,qav];rfl
 rw [GN];apply W.seq;apply W.q
 ·intro M;simp (disch:=first|decide+kernel|omega) only [eZ,qbw,Aq,qal];rfl
 rw [GO];refine W.cond (p:=false) rfl (fun h=>by cases h) (fun _=>?_);apply W.run 20
 ·intro M;simp (disch:=first|decide+kernel|omega) only [eZ,qbw,Aq,qal];rfl
 apply W.q
 ·intro M;simp (disch:=first|decide+kernel|omega) only [eZ,qbw,Aq,qal];rfl
 apply W.run 20
 ·intro M;simp (disch:=first|decide+kernel|omega) only [eZ,qbw,Aq,qal];rfl
 exact⟨by simp,rfl,_,(by simp only [qbw,Aq,qal]<;>rfl),rfl,kB.trans kD⟩
variable {M:List aZ}
theorem uQ {e:TypeId} {rest:List Value} {rows:List (List Value)} {s:aZ} {x:Value} (he:e≠186) (hR:wB A e m p mk b rest (M.map fm) rows y) (hx:iI A s.arcs x) (hf:Fit s) (hM:∀u∈M,Fit u) (hl:s.arcs.length≤256) (hk:M.length<1000000):
 ∃v A',bg af 119 [.pointer (some ⟨p,0,none⟩),.agg ⟨cW x s⟩] A v A'∧v= .int .i64 ((gX M s).2:Nat)∧∃b' y' rows',wB A' e m p mk b' rest ((gX M s).1.map fm) rows' y'∧((rows'=rows∧(gX M s).1=M)∨(rows'=rows++[cW x s]∧(gX M s).1=M++[s]))∧(b'=b∨(A.next≤b'∧b'<A'.next))∧A.next≤A'.next∧∀z,z<A.next→z≠p→z≠mk→(rows≠ []→z≠b)→A'.get z=A.get z:=by
 cases hq:M.findIdx? (fun u=>decide (u=s)) with
 |some i=>
  have hs:=EV hq;obtain⟨hi,-,hno⟩:=qco.1 hq;rw [ya hq];obtain⟨v,A',h1,rfl,kA⟩:=FN (i:=i) hR hx hf hl (by rw [qaN,hs];rfl) (fun k hki h=>by
   have hkl:k<M.length:=by omega
   rw [qaN,qan hkl] at h;have e1:=key_inj (hM M[k] (qbg hkl)) hf (by simpa using h);have e2:=hno k hki;exact absurd e1 (by simpa using e2))
  exact⟨_,A',h1,rfl,b,y,rows,hR.kp kA,.inl ⟨rfl,rfl⟩,.inl rfl,kA.1,fun z hz _ _ _=>kA.2 z hz⟩
 |none=>
  have hn:=EU hq;rw [Fi hq];obtain⟨v,A',h1,rfl,b',y',h3,h4,h5,h6⟩:=FO he hR hx hf hl (fun h=>by
   obtain⟨u,hu,e⟩:=qa3.1 h;exact hn (key_inj (hM u hu) hf e▸hu)) (by rw [qas];exact hk)
  refine⟨_,A',h1,by rw [qas],b',y',_,?_,.inr ⟨rfl,rfl⟩,.inr ⟨h4,o0 h3.2.2.1 (by simp)⟩,h5,h6⟩;rw [qbe];exact h3
end Go.Proofs.YtjoceidiioppiaaGreatDoor.sto
namespace Go.Sto
open Go.Am Go.Mdl
section
structure dI where
 fin:Bool
 out:Nat
 arcs:List cJ
 by':UInt8
def bU (o:dI):Nat:=(o.arcs.foldl (fun(q:Nat×Bool) a=>if q.2=false∨a.out<q.1 then(a.out,true) else q) (o.out,o.fin)).1
def bZ (o:dI):aZ:=⟨o.fin,o.out-(bif o.fin then bU o else 0),o.arcs.map fun a=>⟨a.byte,a.out-bU o,a.to⟩⟩
abbrev qb:=List aZ×dI×List dI
def eB (d:Nat) (M:List aZ) (o:dI):List dI→qb
 | []=>(M,o,[])
 |u::w=>if d≤w.length then eB d (gX M (bZ o)).1 ⟨u.fin,u.out,u.arcs++[⟨o.by',bU o,(gX M (bZ o)).2⟩],u.by'⟩ w else(M,o,u::w)
def dx (d:Nat) (S:qb):qb:=eB d S.1 S.2.1 S.2.2
def e_:List UInt8→dI→List dI→dI×List dI
 | [],o,w=>(o,w)
 |b::bs,o,w=>e_ bs ⟨false,0,[],b⟩ (o::w)
def Ey (v:Nat) (M:List aZ) (q:dI×List dI):qb:=(M,⟨true,v,q.1.arcs,q.1.by'⟩,q.2)
def share:List UInt8→List UInt8→Nat
 |a::x,b::y=>if a=b then share x y+1 else 0
 |_,_=>0
def u6 (z:List UInt8) (e:aP) (S:qb):qb:=
 Ey (val e) (dx (share z e.word) S).1 (e_ (e.word.drop (share z e.word)) (dx (share z e.word) S).2.1 (dx (share z e.word) S).2.2)
def gY:List UInt8→List aP→qb→qb
 |_,[],S=>S
 |z,e::r,S=>gY e.word r (u6 z e S)
variable {M:List aZ}
theorem py {d:Nat} {o:dI} {w:List dI} (h:w.length≤d):eB d M o w=(M,o,w):=by
 cases w with
 |nil=>rfl
 |cons u w=>rw [eB,if_neg (by simp at h;omega)]
theorem ur {d:Nat}:∀(w:List dI) (M:List aZ) (o:dI),dx d (eB (d+1) M o w)=eB d M o w
 | [],M,o=>rfl
 |u::w,M,o=>by
  rw [eB];by_cases h:d+1≤w.length
  ·rw [if_pos h,ur w,eB,if_pos (by omega)]
  ·rw [if_neg h];rfl
theorem Nw {d:Nat} (S:qb):dx d (dx (d+1) S)=dx d S:=ur _ _ _
theorem yM:∀(r s:List aP) (z:List UInt8) (S:qb),gY z (r++s) S=gY ((r.getLast?.map (·.word)).getD z) s (gY z r S)
 | [],s,z,S=>rfl
 |e::r,s,z,S=>by
  rw [qbf,gY,yM r s,gY,List.getLast?_cons];cases r.getLast?<;>rfl
theorem y9 {d:Nat} {p x y:List UInt8} (hx:x.take d=p) (hy:y.take d=p) (hl:p.length=d) (h:x[d]?≠y[d]?∨x[d]?=none):share x y=d:=by
 induction d generalizing p x y with
 |zero=>
  cases x with
  |nil=>cases y<;>rfl
  |cons a x=>cases y with
   |nil=>rfl
   |cons b y=>
    unfold share;rw [if_neg];rintro rfl;simp at h
 |succ d ih=>
  cases p with
  |nil=>cases hl
  |cons c p=>cases x with
   |nil=>cases hx
   |cons a x=>cases y with
    |nil=>cases hy
    |cons b y=>
     simp only [qc0,qa4] at hx hy;unfold share;rw [if_pos (hx.1.trans hy.1.symm),ih hx.2 hy.2 (by simpa using hl) (by simpa using h)]
theorem pO:∀(l:List cJ) (n:Nat) (b:Bool),((b=true∨l≠ [])→(∀a∈l,(l.foldl (fun(q:Nat×Bool) a=>if q.2=false∨a.out<q.1 then(a.out,true) else q) (n,b)).1≤a.out)∧
 (b=true→(l.foldl (fun(q:Nat×Bool) a=>if q.2=false∨a.out<q.1 then(a.out,true) else q) (n,b)).1≤n)∧
 ((b=true∧(l.foldl (fun(q:Nat×Bool) a=>if q.2=false∨a.out<q.1 then(a.out,true) else q) (n,b)).1=n)∨∃a∈l,(l.foldl (fun(q:Nat×Bool) a=>if q.2=false∨a.out<q.1 then(a.out,true) else q) (n,b)).1=a.out))
 | [],n,b=>fun h=>⟨fun a ha=>(by cases ha),fun _=>qao _,.inl ⟨h.resolve_right fun h=>h rfl,rfl⟩⟩
 |x::l,n,b=>fun h=>by
  rw [qbu];by_cases hc:b=false∨x.out<n
  ·rw [if_pos (show((n,b):Nat×Bool).2=false∨x.out<((n,b):Nat×Bool).1 from hc)];obtain⟨h1,h2,h3⟩:=pO l x.out true (.inl rfl);have h2:=h2 rfl;refine⟨fun a ha=>?_,fun hb=>?_,.inr ?_⟩
   ·rcases qaK.1 ha with rfl|ha
    ·exact h2
    ·exact h1 a ha
   ·rcases hc with hc|hc
    ·rw [hb] at hc;cases hc
    ·omega
   ·rcases h3 with⟨-,h3⟩|⟨a,ha,h3⟩
    ·exact⟨x,qaz,h3⟩
    ·exact⟨a,qay _ ha,h3⟩
  ·rw [if_neg (show¬(((n,b):Nat×Bool).2=false∨x.out<((n,b):Nat×Bool).1) from hc)];simp only [not_or,Bool.not_eq_false,Nat.not_lt] at hc;obtain⟨h1,h2,h3⟩:=pO l n b (.inl hc.1);have h2':=h2 hc.1;refine⟨fun a ha=>?_,h2,?_⟩
   ·rcases qaK.1 ha with rfl|ha
    ·exact qaV h2' hc.2
    ·exact h1 a ha
   ·rcases h3 with h3|⟨a,ha,h3⟩
    ·exact .inl h3
    ·exact .inr ⟨a,qay _ ha,h3⟩
variable {rec:List aP→Nat→List aZ→List aZ×Nat} {d n:Nat}
theorem jH:∀(r:List aP) (rs:List cJ) (M:List aZ),cq rec d n r (rs.map fun a=>⟨a.byte,a.out-n,a.to⟩) M=((cq rec d 0 r rs M).1,(cq rec d 0 r rs M).2.map fun a=>⟨a.byte,a.out-n,a.to⟩)
 | [],rs,M=>rfl
 |e::r,rs,M=>by
  have hl:((rs.map fun a=>(⟨a.byte,a.out-n,a.to⟩:cJ)).getLast?).map (·.byte)=(rs.getLast?).map (·.byte):=by
   rw [List.getLast?_map,Option.map_map];rfl
  unfold cq;rw [hl];split
  ·exact jH r rs M
  ·rw [←jH r,qbe];rfl
theorem qI:∀(r:List aP) (rs:List cJ) (M:List aZ),(∀y∈r,aG d y≠none→(rs.getLast?).map (·.byte)=aG d y→∃a∈rs,a.out≤val y)→
 (∀a∈(cq rec d 0 r rs M).2,a∈rs∨∃e∈r,a.out=val e)∧(∀a∈rs,a∈(cq rec d 0 r rs M).2)∧∀y∈r,aG d y≠none→∃a∈(cq rec d 0 r rs M).2,a.out≤val y
 | [],rs,M,h=>⟨fun a ha=>.inl ha,fun a ha=>ha,fun y hy=>by cases hy⟩
 |e::r,rs,M,h=>by
  unfold cq;split
  ·rename_i hs;obtain⟨h1,h2,h3⟩:=qI r rs M fun y hy=>h y (qay _ hy)
   refine⟨fun a ha=>(h1 a ha).imp id fun⟨e,he,h⟩=>⟨e,qay _ he,h⟩,h2,fun y hy hn=>?_⟩;rcases qaK.1 hy with rfl|hy
   ·obtain⟨a,ha,hle⟩:=h y qaz hn (hs.resolve_left hn);exact⟨a,h2 a ha,hle⟩
   ·exact h3 y hy hn
  ·rename_i hs;simp only [not_or] at hs;obtain⟨b,hb⟩:=qd8.1 hs.1;have hin:∀y∈e::r,aG d y=aG d e→least ((e::r).filter fun x=>decide (aG d x=aG d e))≤val y:=fun y hy hh=>least_le (qbV.2 ⟨hy,by simpa using hh⟩)
   obtain⟨e0,he0,hle⟩:=oT (l:=(e::r).filter fun x=>decide (aG d x=aG d e)) (List.ne_nil_of_mem (qbV.2 ⟨qaz,by simp⟩));have hown:∀x∈(e::r).filter (fun x=>decide (aG d x=aG d e)),x∈e::r:=fun x hx=>(qbV.1 hx).1
   generalize (e::r).filter (fun x=>decide (aG d x=aG d e))=own at*;obtain⟨h1,h2,h3⟩:=qI r (rs++[⟨(aG d e).getD 0,least own-0,(rec own (least own) M).2⟩]) (rec own (least own) M).1 fun y hy hn hl=>by
    rw [List.getLast?_append] at hl;simp [hb] at hl;exact⟨_,qbU _ qaz,hin y (qay _ hy) (hl.symm.trans hb.symm)⟩
   refine⟨fun a ha=>?_,fun a ha=>h2 a (qd5 _ ha),fun y hy hn=>?_⟩
   ·rcases h1 a ha with h|⟨e1,he1,h⟩
    ·rcases qbF.1 h with h|h
     ·exact .inl h
     ·rw [qaY.1 h];exact .inr ⟨e0,hown e0 he0,hle⟩
    ·exact .inr ⟨e1,qay _ he1,h⟩
   ·rcases qaK.1 hy with rfl|hy
    ·exact⟨_,h2 _ (qbU _ qaz),hin y qaz rfl⟩
    ·exact h3 y hy hn
theorem wJ {b:UInt8}:∀(g r:List aP) (rs:List cJ) (M:List aZ),(rs.getLast?).map (·.byte)=some b→(∀e∈g,aG d e=some b)→cq rec d n (g++r) rs M=cq rec d n r rs M
 | [],r,rs,M,_,_=>rfl
 |e::g,r,rs,M,h,hg=>by
  rw [qbf,cq,if_pos (.inr (h.trans (hg e qaz).symm))];exact wJ g r rs M h fun e he=>hg e (qay _ he)
theorem AJ:∀(l:List aP),(∀e∈l,aG d e≠none)→∀q:Bool×Nat,l.foldl (fun s e=>if aG d e=none then(true,val e-n) else s) q=q
 | [],_,q=>rfl
 |e::l,h,q=>by
  rw [qbu,if_neg (h e qaz)];exact AJ l (fun e he=>h e (qay _ he)) q
theorem K5 (l:List aP):iq d n l=((iq d 0 l).1,(iq d 0 l).2-(bif (iq d 0 l).1 then n else 0)):=by
 have:∀(l:List aP) (b:Bool) (k:Nat),l.foldl (fun s e=>if aG d e=none then(true,val e-n) else s) (b,k-bif b then n else 0)=
  ((l.foldl (fun s e=>if aG d e=none then(true,val e-0) else s) (b,k)).1,(l.foldl (fun s e=>if aG d e=none then(true,val e-0) else s) (b,k)).2-bif (l.foldl (fun s e=>if aG d e=none then(true,val e-0) else s) (b,k)).1 then n else 0):=by
  intro l
  induction l with
  |nil=>intro b k;rfl
  |cons e l ih=>
   intro b k;rw [qbu,qbu];split
   ·exact ih true (val e-0)
   ·exact ih b k
 exact this l false 0
variable {e:aP}
theorem AK {p:List UInt8} {r:List aP} (ha:rk (e::r)) (hb:Kt d p (e::r)):(∀x∈r,aG d x≠none)∧iq d 0 (e::r)=if aG d e=none then(true,val e) else(false,0):=by
 have h:∀x∈r,aG d x≠none:=fun x hx=>by
  obtain⟨c,h,-⟩:=oB (hb e qaz).1 (hb x (qay _ hx)).1 (ha.1 x hx);rw [h];simp
 refine⟨h,?_⟩;show List.foldl _ (if aG d e=none then(true,val e-0) else(false,0)) r=_;rw [AJ r h];split<;>rfl
theorem JF {p:List UInt8} {own:List aP} (y:UInt8) (h0:own≠ []) (ha:rk own) (hb:Kt d p own):
 bU ⟨(iq d 0 own).1,(iq d 0 own).2,(cq rec d 0 own [] M).2,y⟩=least own∧
 bZ ⟨(iq d 0 own).1,(iq d 0 own).2,(cq rec d 0 own [] M).2,y⟩=⟨(iq d (least own) own).1,(iq d (least own) own).2,(cq rec d (least own) own [] M).2⟩:=by
 have hL:bU ⟨(iq d 0 own).1,(iq d 0 own).2,(cq rec d 0 own [] M).2,y⟩=least own:=by
  obtain⟨a1,-,a3⟩:=qI (rec:=rec) (d:=d) own [] M fun y _ hn h=>absurd h.symm hn
  obtain⟨e,r,rfl⟩:=qdg h0;obtain⟨f1,f2⟩:=AK ha hb;obtain⟨m,hm,hme⟩:=oT h0;obtain⟨l1,l2,l3⟩:=pO (cq rec d 0 (e::r) [] M).2 (iq d 0 (e::r)).2 (iq d 0 (e::r)).1 (by
   rw [f2];by_cases hn:aG d e=none
   ·rw [if_pos hn];exact .inl rfl
   ·obtain⟨a,ha,-⟩:=a3 e qaz hn;exact .inr (List.ne_nil_of_mem ha))
  refine Nat.le_antisymm ?_ ?_
  ·rw [hme];by_cases hn:aG d m=none
   ·have he:m=e:=by
     rcases qaK.1 hm with h|h
     ·exact h
     ·exact absurd hn (f1 m h)
    subst he;have:=l2 (by rw [f2,if_pos hn]);rw [f2,if_pos hn] at this;unfold bU;rw [f2,if_pos hn];exact this
   ·obtain⟨a,ha,hle⟩:=a3 m hm hn;exact qaV (l1 a ha) hle
  ·rcases l3 with⟨h1,h2⟩|⟨a,ha,h2⟩
   ·unfold bU;rw [h2];rw [f2] at h1⊢;split at h1
    ·rw [if_pos (by assumption)];exact least_le qaz
    ·cases h1
   ·unfold bU;rw [h2];rcases a1 a ha with h|⟨x,hx,h⟩
    ·cases h
    ·rw [h];exact least_le hx
 refine⟨hL,?_⟩;unfold bZ;rw [hL,K5 (n:=least own),show cq rec d (least own) own [] M=_ from jH (n:=least own) own [] M]
def Y6 (f d:Nat) (p:List UInt8):Prop:=∀(e:aP) (r:List aP) (M:List aZ) (y:UInt8) (W:List dI),rk (e::r)→Kt d p (e::r)→(∀x∈e::r,x.word.length<d+f)→W.length=d→
 dx d (gY e.word r (Ey (val e) M (e_ (e.word.drop d) ⟨false,0,[],y⟩ W)))=
  ((cq (fun own n M=>pX (f-1) own (d+1) n M) d 0 (e::r) [] M).1,⟨(iq d 0 (e::r)).1,(iq d 0 (e::r)).2,(cq (fun own n M=>pX (f-1) own (d+1) n M) d 0 (e::r) [] M).2,y⟩,W)
theorem xJ {f d:Nat} {p:List UInt8} (hp:p.length=d) (hG:∀b,Y6 f (d+1) (p++[b])):∀(k:Nat) (r:List aP) (z:List UInt8) (S:qb) (M:List aZ) (o:dI) (W:List dI),r.length≤k→dx d S=(M,o,W)→W.length=d→
 rk r→Kt d p r→(∀x∈r,x.word.length<d+1+f)→(∀x∈r,aG d x≠none∧aG d x≠(o.arcs.getLast?).map (·.byte))→(∀x,r.head?=some x→share z x.word=d)→
 dx d (gY z r S)=((cq (fun own n M=>pX f own (d+1) n M) d 0 r o.arcs M).1,⟨o.fin,o.out,(cq (fun own n M=>pX f own (d+1) n M) d 0 r o.arcs M).2,o.by'⟩,W)
 |_,[],z,S,M,o,W,_,hS,_,_,_,_,_,_=>hS
 |0,e::r,_,_,_,_,_,h,_,_,_,_,_,_,_=>by simp at h
 |k+1,e::r,z,S,M,o,W,hk,hS,hW,ha,hb,hl,hby,hz=>by
  obtain⟨b,hbe⟩:=qd8.1 (hby e qaz).1;have hge:∀y∈e::r,∃c,aG d y=some c∧b≤c:=by
   intro y hyr;rcases qaK.1 hyr with rfl|hyr
   ·exact⟨b,hbe,UInt8.le_refl _⟩
   ·obtain⟨c,h1,h2⟩:=oB (hb e qaz).1 (hb y (qay _ hyr)).1 (ha.1 y hyr);exact⟨c,h1,h2 b hbe⟩
  have hsplit:=oX (b:=b) ha hb hge;have hfe:(e::r).filter (fun x=>decide (aG d x=aG d e))=e::r.filter fun x=>decide (aG d x=some b):=by
   rw [qbp,if_pos (by simp),hbe]
  rw [qbp,if_pos (by simp [hbe]),qbp,if_neg (by simp [hbe]),qbf,qa4] at hsplit;have hsp:=hsplit.2;have hg:∀x∈r.filter (fun x=>decide (aG d x=some b)),x∈r∧aG d x=some b:=fun x hx=>by
   obtain⟨h1,h2⟩:=qbV.1 hx;exact⟨h1,by simpa using h2⟩
  have hr:∀x∈r.filter (fun x=>decide (aG d x≠some b)),x∈r∧aG d x≠some b:=fun x hx=>by
   obtain⟨h1,h2⟩:=qbV.1 hx;exact⟨h1,by simpa using h2⟩
  have hag:rk (r.filter fun x=>decide (aG d x=some b)):=jI ha.2;have har:rk (r.filter fun x=>decide (aG d x≠some b)):=jI ha.2;have hlr:(r.filter fun x=>decide (aG d x≠some b)).length≤k:=qaV (List.length_filter_le _ _) (by simpa using hk);generalize r.filter (fun x=>decide (aG d x=some b))=g at*;generalize r.filter (fun x=>decide (aG d x≠some b))=s at*;have hgo:Kt (d+1) (p++[b]) (e::g):=by
   intro x hx;have:x∈e::r∧aG d x=some b:=by
    rcases qaK.1 hx with rfl|hx
    ·exact⟨qaz,hbe⟩
    ·exact⟨qay _ (hg x hx).1,(hg x hx).2⟩
   obtain⟨hd,he⟩:=qap.1 this.2;refine⟨?_,hd⟩;rw [qaC hd,(hb x this.1).1,he]
  have hag':rk (e::g):=⟨fun y hy=>ha.1 y (hg y hy).1,hag⟩;obtain⟨hd,hde⟩:=qap.1 hbe;have hG1:=hG b e g M b (o::W) hag' hgo (fun x hx=>by
   have:=hl x (by
    rcases qaK.1 hx with rfl|hx
    ·exact qaz
    ·exact qay _ (hg x hx).1)
   omega) (by simp [hW])
  have hadd:u6 z e S=Ey (val e) M (e_ (e.word.drop (d+1)) ⟨false,0,[],b⟩ (o::W)):=by
   unfold u6;rw [hz e rfl,hS,qbi hd,hde];rfl
  rw [←hadd] at hG1;generalize hS1:gY e.word g (u6 z e S)=S1 at hG1;have hC:=Nw (d:=d) S1;rw [hG1] at hC;obtain⟨f,rfl⟩:∃f',f=f'+1:=⟨f-1,by
   have q:e.word.length<d+1+f:=hl e qaz;have q2:d<e.word.length:=hd;omega⟩
  obtain⟨n1,n2⟩:=JF (rec:=fun own n M=>pX f own (d+1+1) n M) (d:=d+1) (M:=M) b (List.cons_ne_nil e g) hag' hgo;rw [qbW] at hC;have hst:pX (f+1) (e::g) (d+1) (least (e::g)) M=gX (cq (fun own n M=>pX f own (d+1+1) n M) (d+1) 0 (e::g) [] M).1 (bZ ⟨(iq (d+1) 0 (e::g)).1,(iq (d+1) 0 (e::g)).2,(cq (fun own n M=>pX f own (d+1+1) n M) (d+1) 0 (e::g) [] M).2,b⟩):=by
   rw [n2,pX,show cq (fun own n M=>pX f own (d+1+1) n M) (d+1) (least (e::g)) (e::g) [] M=_ from jH (n:=least (e::g)) (e::g) [] M]
  have hC2:dx d S1=((pX (f+1) (e::g) (d+1) (least (e::g)) M).1,⟨o.fin,o.out,o.arcs++[⟨b,least (e::g),(pX (f+1) (e::g) (d+1) (least (e::g)) M).2⟩],o.by'⟩,W):=by
   rw [←hC,hst];show eB d _ _ (o::W)=_;rw [eB,if_pos (by omega),py (by omega),n1]
  have hrun:gY z (e::r) S=gY (((e::g).getLast?.map (·.word)).getD z) s S1:=by
   rw [hsp,←qbf,yM,←hS1];rfl
  have hlast:∃x∈e::g,((e::g).getLast?.map (·.word)).getD z=x.word:=by
   rw [List.getLast?_eq_some_getLast (List.cons_ne_nil e g)];exact⟨_,List.getLast_mem (List.cons_ne_nil e g),rfl⟩
  have hby2:∀(x:cJ),((o.arcs++[x]).getLast?).map (·.byte)=some x.byte:=fun x=>by rw [List.getLast?_append];simp
  rw [hrun,xJ hp hG k s _ S1 _ _ W hlr hC2 hW har (fun x hx=>hb x (qay _ (hr x hx).1)) (fun x hx=>hl x (qay _ (hr x hx).1))
   (fun x hx=>⟨(hby x (qay _ (hr x hx).1)).1,by rw [hby2];exact(hr x hx).2⟩) (fun x hx=>by
    obtain⟨u,hu,e1⟩:=hlast;rw [e1];have hxs:=List.mem_of_head? hx;have hu2:u∈e::r∧aG d u=some b:=by
     rcases qaK.1 hu with rfl|hu
     ·exact⟨qaz,hbe⟩
     ·exact⟨qay _ (hg u hu).1,(hg u hu).2⟩
    exact y9 (hb u hu2.1).1 (hb x (qay _ (hr x hxs).1)).1 hp (.inl fun h=>(hr x hxs).2 (by rw [←hu2.2];exact h.symm)))]
  have hA:cq (fun own n M=>pX (f+1) own (d+1) n M) d 0 (e::r) o.arcs M=cq (fun own n M=>pX (f+1) own (d+1) n M) d 0 s (o.arcs++[⟨b,least (e::g),(pX (f+1) (e::g) (d+1) (least (e::g)) M).2⟩]) (pX (f+1) (e::g) (d+1) (least (e::g)) M).1:=by
   rw [cq,if_neg (by
    rintro(h|h)
    ·rw [hbe] at h;cases h
    ·exact(hby e qaz).2 h.symm),hfe,hbe,hsp]
   exact wJ g s _ _ (hby2 _) fun x hx=>(hg x hx).2
  rw [hA]
theorem N6:∀(f d:Nat) (p:List UInt8),p.length=d→Y6 f d p
 |0,d,p,hp=>fun e r M y W ha hb hl hW=>by
  have:=hl e qaz;have:=(hb e qaz).2;omega
 |f+1,d,p,hp=>fun e r M y W ha hb hl hW=>by
  have hG:∀b,Y6 f (d+1) (p++[b]):=fun b=>N6 f (d+1) (p++[b]) (by simp [hp])
  obtain⟨f1,f2⟩:=AK ha hb;have hl':∀x∈e::r,x.word.length<d+1+f:=fun x hx=>by have:=hl x hx;omega
  have hlast:∀x∈r,share e.word x.word=d∨aG d e≠none:=fun x hx=>by
   by_cases hn:aG d e=none
   ·exact .inl (y9 (hb e qaz).1 (hb x (qay _ hx)).1 hp (.inr hn))
   ·exact .inr hn
  rw [qbW,f2];by_cases hn:aG d e=none
  ·rw [if_pos hn,qdK (Ak.1 hn)];rw [show Ey (val e) M (e_ [] ⟨false,0,[],y⟩ W)=(M,⟨true,val e,[],y⟩,W) from rfl,xJ hp hG r.length r e.word (M,⟨true,val e,[],y⟩,W) M ⟨true,val e,[],y⟩ W (qao _) (show eB d M _ W=_ from py (by omega)) hW ha.2 (fun x hx=>hb x (qay _ hx)) (fun x hx=>hl' x (qay _ hx)) (fun x hx=>⟨f1 x hx,fun h=>f1 x hx h⟩) fun x hx=>(hlast x (List.mem_of_head? hx)).resolve_right fun h=>h hn];rw [show cq (fun own n M=>pX f own (d+1) n M) d 0 (e::r) [] M=cq (fun own n M=>pX f own (d+1) n M) d 0 r [] M by rw [cq,if_pos (.inl hn)]]
  ·rw [if_neg hn];have hsh:share p e.word=d:=y9 (by rw [←hp,qaR]) (hb e qaz).1 hp (.inr (by rw [←hp];simp));have h1:gY e.word r (Ey (val e) M (e_ (e.word.drop d) ⟨false,0,[],y⟩ W))=gY p (e::r) (M,⟨false,0,[],y⟩,W):=by
    rw [gY,u6,hsh];have:dx d (M,(⟨false,0,[],y⟩:dI),W)=(M,⟨false,0,[],y⟩,W):=py (by show W.length≤d;omega);rw [this]
   rw [h1,xJ hp hG (e::r).length (e::r) p (M,⟨false,0,[],y⟩,W) M ⟨false,0,[],y⟩ W (qao _) (show eB d M _ W=_ from py (by omega)) hW ha hb hl' (fun x hx=>⟨by
    rcases qaK.1 hx with rfl|hx
    ·exact hn
    ·exact f1 x hx,fun h=>by
    rcases qaK.1 hx with rfl|hx
    ·exact hn h
    ·exact f1 x hx h⟩) fun x hx=>by cases hx;exact hsh]
theorem On {f:Nat} {l:List aP} (h0:l≠ []) (ha:rk l) (hl:∀e∈l,e.word.length<f+1):∃M o,dx 0 (gY [] l ([],⟨false,0,[],0⟩,[]))=(M,o,[])∧bU o=least l∧gX M (bZ o)=pX (f+1) l 0 (least l) []:=by
 obtain⟨e,r,rfl⟩:=qdg h0;have hb:Kt 0 [] (e::r):=fun x _=>⟨rfl,qaB _⟩
 have h:=N6 (f+1) 0 [] rfl e r [] 0 [] ha hb (by simpa using hl) rfl;obtain⟨n1,n2⟩:=JF (rec:=fun own n M=>pX f own 1 n M) (d:=0) (p:=[]) (M:=[]) 0 h0 ha hb;refine⟨(cq (fun own n M=>pX f own 1 n M) 0 0 (e::r) [] []).1,_,?_,n1,?_⟩
 ·have:gY [] (e::r) ([],⟨false,0,[],0⟩,[])=gY e.word r (Ey (val e) [] (e_ (e.word.drop 0) ⟨false,0,[],0⟩ [])):=by
   rw [gY,u6,show share [] e.word=0 by cases e.word<;>rfl];rfl
  rw [this,h];rfl
 ·rw [n2,pX,show cq (fun own n M=>pX f own (0+1) n M) 0 (least (e::r)) (e::r) [] []=_ from jH (n:=least (e::r)) (e::r) [] []]
end
end Go.Sto
namespace Go.Proofs.YtjoceidiioppiaaGreatDoor.sto
open Go.Am Go.Mdl Go.Sto
variable {A B:Mem} {b o n m:Nat}
theorem BA {q:Nat} (l1:ag af A.get 113 (pw b o)= .ok (.int .u64 m)) (l2:ag af A.get 113 (pw q 0)= .ok (.int .u64 n)) (h:n≤m) (hm:m<18446744073709551616)
 (sB:aW af A 113 (pw b o) (uN (m-n))= .ok B):bg af 175 [pw b o,pV q] A bL B:=by
 have s1:aM .sub .u64 ((m:Nat):Int) ((n:Nat):Int)= .ok (uN (m-n)):=br h (cV (by omega));simp only [pV];refine bm 60 (aq Tryz.func175) (by kernel_rfl) fun M=>?_
 simp (config:={maxSteps:=4000000}) (disch:=first|decide+kernel|omega|simp only [Wq,qal]) only [Tryz.f175,Aq,qaq,reduceIte,qal,qam,ak,aF,l1,l2,s1,sB,bL,Fq,aA []]<;>rfl
theorem Qy {α:Type} (f:α→α) (l:List α) (i:Nat) (h:i<l.length):((l.map f).take i++l.drop i).set i (f l[i])=(l.map f).take (i+1)++l.drop (i+1):=by
 have hl:((l.map f).take i).length=i:=by rw [qaE,qas];omega
 rw [qdd _ _ (by omega),hl,qbq,qbi h,List.set_cons_zero,qaC (by rw [qas];exact h),qc2];simp
noncomputable def om:Code:=qcW.body.getD .skip
noncomputable def GM:Code:=sub om [1,1,1,1,0,1,0,0]
theorem QZ:qcW.body=some (.seq (sub om [0]) (.seq (sub om [1,0]) (.seq (sub om [1,1,0]) (.seq (sub om [1,1,1,0]) (.seq (.seq (sub om [1,1,1,1,0,0]) (.block 0 (.loop GM))) (.seq (sub om [1,1,1,1,1,0]) (sub om [1,1,1,1,1,1]))))))):=by kernel_rfl
theorem za:aR af 113= .ok 1:=by kernel_rfl
theorem To:bS af 113= .ok (uN 0):=by kernel_rfl
def ja (x:Value) (o:dI):List Value:=[x,.bool o.fin,.int .u64 o.out,.int .u8 (o.by'.toNat:Nat)]
theorem AZ {o:dI} (h:o.fin=true∨o.arcs≠ []):(∀a∈o.arcs,bU o≤a.out)∧(o.fin=true→bU o≤o.out):=by
 obtain⟨h1,h2,-⟩:=pO o.arcs o.out o.fin h;exact⟨h1,h2⟩
variable {p:Nat}
theorem FT {bx:Nat} {o:dI} {x:Value} (hp:VB A 188 p (.var 4) (ja x o)) (hx:az A 246 3 bx (o.arcs.map b6) x) (h0:o.fin=true∨o.arcs≠ []) (hl:o.arcs.length≤256) (ho:o.out<18446744073709551616∧∀a∈o.arcs,a.out<18446744073709551616):
 ∃v A',bg af 118 [pV p] A v A'∧v= .int .u64 (bU o:Nat)∧VB A' 188 p (.var 4) (ja x ⟨o.fin,(bZ o).out,(bZ o).arcs,o.by'⟩)∧az A' 246 3 bx ((bZ o).arcs.map b6) x∧A.next≤A'.next∧∀z,z<A.next→z≠p→(o.arcs≠ []→z≠bx)→A'.get z=A.get z:=by
 obtain⟨q1,q2⟩:=AZ h0;obtain⟨v,B,⟨g,hg⟩,rfl,kB⟩:=uS (s:=⟨o.fin,o.out,o.arcs⟩) ⟨bx,hx⟩ hp hl;have hn:(o.arcs.foldl E5 (o.out,o.fin)).1=bU o:=rfl;simp only [hn] at hg;have hpn:bU o<18446744073709551616:=by
  rcases h0 with h|h
  ·have:=q2 h;omega
  ·obtain⟨a,ha⟩:=qdl _ h;have:=q1 a ha;have:=ho.2 a ha;omega
 have kC:=Kp.alloc B (aa 113 [.int .u64 (bU o:Nat)]);have vC:=ay B 113 [.int .u64 (bU o:Nat)];have sC:aW af (B.alloc (aa 113 [.int .u64 (0:Nat)])) 113 (.pointer (some ⟨B.next,0,none⟩)) (.int .u64 (bU o:Nat))= .ok (B.alloc (aa 113 [.int .u64 (bU o:Nat)])):=eG za rfl rfl (by simp);have nC:(B.alloc (aa 113 [.int .u64 (bU o:Nat)])).next=B.next+1:=ae _ _
 have cz:(Value.int .u64 (0:Nat)).cells.toList=[.int .u64 (0:Nat)]:=rfl;refine cF (aq Tryz.func118) QZ (by kernel_rfl) ?_;simp only [pV] at*;apply W.q
 ·intro M;simp (disch:=first|decide+kernel|omega) only [om,qcW,Aq,qal];rfl
 apply W.qG (g)
 ·intro M hM;simp (disch:=first|decide+kernel|omega) only [om,qcW,Aq,qal,hg,To,cz,sC];rfl
 generalize B.alloc (aa 113 [.int .u64 (bU o:Nat)])=C at kC vC sC nC;have kAC:=kB.trans kC;have hpC:=VB.kp hp kAC;have hxC:=hx.same kAC.1 (kAC.2 bx);have hpA:=hp.1;have hBp:=kB.1;have lC:ag af C.get 113 (.pointer (some ⟨B.next,0,none⟩))= .ok (.int .u64 (bU o:Nat)):=vC.ld rfl fp rfl;apply W.q
 ·intro M;simp (disch:=first|decide+kernel|omega) only [om,qcW,Aq,qal];rfl
 apply W.seq;have lf:ag af C.get 4 (.pointer (some ⟨p,0+1,none⟩))= .ok (.bool o.fin):=hpC.ld rfl u4 rfl;have lo:ag af C.get 113 (.pointer (some ⟨p,0+2,none⟩))= .ok (.int .u64 o.out):=hpC.ld rfl fp rfl;obtain⟨D,sD,vD,nD,fD⟩:=aL (tb:=af) (t:=113) (o:=0+2) (v:=.int .u64 (o.out-bU o:Nat)) za hpC.2 (by simp [ja]) rfl rfl;refine W.to (n:=41) (fun t E=>VB E 188 p (.var 4) (ja x ⟨o.fin,(bZ o).out,o.arcs,o.by'⟩)∧E.next=C.next∧(∀z,z≠p→E.get z=C.get z)∧Sl t [(0,.pointer (some ⟨p,0,none⟩)),(3,.pointer (some ⟨B.next,0,none⟩)),(4,.func (.func 175) ⟨[]⟩ ⟨[.pointer (some ⟨B.next,0,none⟩)]⟩)]) ?_ ?_
 ·cases hf:o.fin with
  |true=>
   rw [hf] at lf;have hless:=BA lo lC (q2 hf) ho.1 sD;obtain⟨g2,h2⟩:=hless;simp only [pV] at h2;apply W.cN (g2) 20
   ·intro M hM;simp (disch:=first|decide+kernel|omega) only [om,qcW,Aq,qal,ak,aF,nd,ee,m_,lf,h2,bL];rfl
   refine⟨rfl,_,D,rfl,⟨by omega,?_⟩,nD,fD,?_⟩
   ·have e:ja x ⟨true,(bZ o).out,o.arcs,o.by'⟩=(ja x o).set (0+2) (.int .u64 (o.out-bU o:Nat)):=by unfold ja bZ;rw [hf];rfl
    rw [e];exact vD
   ·simp only [Sq,qal,qam]
  |false=>
   rw [hf] at lf;apply W.run 20
   ·intro M;simp (disch:=first|decide+kernel|omega) only [om,qcW,Aq,qal,ak,aF,nd,ee,lf];rfl
   refine⟨rfl,_,C,rfl,?_,rfl,fun _ _=>rfl,?_⟩
   ·have e:ja x ⟨false,(bZ o).out,o.arcs,o.by'⟩=ja x o:=by unfold ja bZ;rw [hf];rfl
    rw [e];exact hpC
   ·simp only [Sq,qal,qam]
 ·rintro t E ⟨vE,nE,fE,g0,g3,g4,-⟩;have hBp':=kC.1;have hne:o.arcs≠ []→bx<A.next∧p≠bx:=fun h=>by
   have h':o.arcs.map b6≠ []:=fun e=>h (qbk.1 e)
   exact⟨o0 hx h',az.vo hx hp (by decide) h'⟩
  have hxE:az E 246 3 bx (o.arcs.map b6) x:=az.Zp hxC hpC (by decide) ⟨by omega,fun z _ hz=>fE z hz⟩;have lx:ag af E.get 184 (.pointer (some ⟨p,0,none⟩))= .ok x:=vE.ld rfl mi rfl;have len:=az.len (tb:=af) hxE mi;rw [qas] at len;apply W.seq;apply W.q
  ·intro M;simp (disch:=first|decide+kernel|omega) only [om,qcW,Aq,qal,g0,ak,aF,nd,fk,lx,len];rfl
  apply W.block;have hP:(bZ o).arcs=o.arcs.map fun a=>⟨a.byte,a.out-bU o,a.to⟩:=rfl
  generalize hf:(fun a:cJ=>(⟨a.byte,a.out-bU o,a.to⟩:cJ))=f at hP;refine W.up o.arcs.length (fun i t F=>az F 246 3 bx (((o.arcs.map f).take i++o.arcs.drop i).map b6) x∧VB F 188 p (.var 4) (ja x ⟨o.fin,(bZ o).out,o.arcs,o.by'⟩)∧F.next=C.next∧(∀z,z≠p→(o.arcs≠ []→z≠bx)→F.get z=C.get z)∧Sl t [(0,.pointer (some ⟨p,0,none⟩)),(3,.pointer (some ⟨B.next,0,none⟩)),(4,.func (.func 175) ⟨[]⟩ ⟨[.pointer (some ⟨B.next,0,none⟩)]⟩),(25,.int .i64 (o.arcs.length:Nat)),(26,.int .i64 i)]) ?_ (qaB _) ⟨by simpa using hxE,vE,nE,fun z h1 _=>fE z h1,?_⟩
  ·rintro i t F hi ⟨hF,vF,nF,fF,g0,g3,g4,g25,g26,-⟩;by_cases hlt:i<o.arcs.length
   ·obtain⟨hbx,hpb⟩:=hne (fun e=>by rw [e] at hlt;simp at hlt);have hli:((o.arcs.map f).take i).length=i:=by rw [qaE,qas];omega
    have hrow:(((o.arcs.map f).take i++o.arcs.drop i).map b6)[i]?=some (b6 o.arcs[i]):=by
     rw [qaN,qaF (by omega),hli,qbq,qcc,qa8,qan hlt];rfl
    have hlen:i<(((o.arcs.map f).take i++o.arcs.drop i).map b6).length:=(qap.1 hrow).1;have lF:ag af F.get 184 (.pointer (some ⟨p,0,none⟩))= .ok x:=vF.ld rfl mi rfl;have j1:=az.idx (tb:=af) (t:=184) (kd:=.i64) hF mi MB hlen;have j2:=az.load (tb:=af) (t:=113) (j:=1) hF fp rfl hrow rfl (by omega);obtain⟨G,e1,e2,e3,e4⟩:=az.field (tb:=af) (t:=113) (j:=1) (v:=.int .u64 (o.arcs[i].out-bU o:Nat)) hF za hrow (by omega) rfl rfl;have lq:ag af F.get 113 (.pointer (some ⟨B.next,0,none⟩))= .ok (.int .u64 (bU o:Nat)):=VB.ld (tb:=af) ⟨by have:=vC.1;omega,vC.2.same (fF _ (by omega) fun _=>by omega)⟩ rfl fp rfl;obtain⟨g2,h2⟩:=BA j2 lq (q1 _ (qbg hlt)) (ho.2 _ (qbg hlt)) e1;simp only [pV] at h2;apply W.cN (g2) 20
    ·intro M hM;simp (disch:=first|decide+kernel|omega) only [GM,om,qcW,Aq,qal,g0,g4,g25,g26,hlt,ak,aF,nd,fk,lF,j1,qR,h2,bL];rfl
    refine⟨hlt,_,G,rfl,?_,⟨by have:=vF.1;omega,vF.2.same (e4 p hpb)⟩,by omega,fun z h1 h2=>by rw [e4 z (h2 fun e=>by rw [e] at hlt;simp at hlt),fF z h1 h2],?_⟩
    ·have hu:=Qy f o.arcs i hlt;rw [←hu,qeD,show b6 (f o.arcs[i])=(b6 o.arcs[i]).set 1 (.int .u64 (o.arcs[i].out-bU o:Nat)) by rw [←hf];rfl];exact e2
    ·simp only [Sq,qal,qam,g0,g3,g4,g25]
   ·have e:i=o.arcs.length:=by omega
    subst e;apply W.run 20
    ·intro M;simp (disch:=first|decide+kernel|omega) only [GM,om,qcW,Aq,qal,g25,g26,hlt];rfl
    show W af _ _ _;have lq:ag af F.get 113 (.pointer (some ⟨B.next,0,none⟩))= .ok (.int .u64 (bU o:Nat)):=VB.ld (tb:=af) ⟨by have:=vC.1;omega,vC.2.same (fF _ (by omega) fun h=>by have:=(hne h).1;omega)⟩ rfl fp rfl;apply W.q
    ·intro M;simp (disch:=first|decide+kernel|omega) only [om,qcW,Aq,qal,g3,lq];rfl
    apply W.run 20
    ·intro M;simp (disch:=first|decide+kernel|omega) only [om,qcW,Aq,qal];rfl
    rw [qcq (by rw [qas];exact qao _),qd4,qbt,←hP] at hF;refine⟨by simp,rfl,_,(by simp only [qcW,Aq,qal]<;>rfl),rfl,?_,hF,by show A.next≤F.next;omega,fun z hz h1 h2=>?_⟩
    ·exact vF
    ·show F.get z=A.get z;rw [fF z h1 h2,kAC.2 z hz]
  ·simp only [Sq,qal,qam,g0,g3,g4]
def oc (A:Mem) (b:Nat) (l:List cJ) (x:Value):Prop:=az A 246 3 b (l.map b6) x∧(l=[]→x= .slice none 0 0)
theorem oc.same {G:Mem} {l:List cJ} {x:Value} (h:oc A b l x) (hn:A.next≤G.next) (hg:l.map b6≠ []→b<A.next→G.get b=A.get b):oc G b l x:=⟨az.j_ h.1 (fun e=>h.2 (qbk.1 e)) hn hg,h.2⟩
def hZ (A:Mem) (X:Nat→Prop) (p mk:Nat) (M:List aZ) (os:List dI) (b bw:Nat) (bs:List Nat):Prop:=∃y w rows ws,
 wB A 182 3 p mk b [w] (M.map fm) rows y∧ie A 188 4 bw ws w∧(ws.length=os.length∧bs.length=os.length∧bs.Nodup)∧
 (∀(i:Nat) (s:aZ),M[i]?=some s→∃x bx,rows[i]?=some (cW x s)∧oc A bx s.arcs x∧bx∉bs∧bx<A.next)∧
 (∀(i:Nat) (o:dI) (bx:Nat),os[i]?=some o→bs[i]?=some bx→∃x,ws[i]?=some (ja x o)∧oc A bx o.arcs x∧bx<A.next)∧
 (¬X p∧¬X mk∧¬X b∧¬X bw)∧(∀z∈bs,¬X z)∧(b<A.next∧bw<A.next)∧∀z,X z→z<A.next
variable {mk bw:Nat} {M:List aZ} {os:List dI}
theorem hZ.kp {X:Nat→Prop} {bs:List Nat} (h:hZ A X p mk M os b bw bs) (k:Kp A B):hZ B X p mk M os b bw bs:=by
 obtain⟨y,w,rows,ws,h1,h2,h3,h4,h5,h6,h7,h8,h9⟩:=h;refine⟨y,w,rows,ws,h1.kp k,h2.same k.1 (k.2 bw h8.2),h3,fun i s hi=>?_,fun i o bx hi hb=>?_,h6,h7,⟨qaD h8.1 k.1,qaD h8.2 k.1⟩,fun z hz=>qaD (h9 z hz) k.1⟩
 ·obtain⟨x,bx,e1,e2,e3,e4⟩:=h4 i s hi;exact⟨x,bx,e1,e2.same k.1 fun _=>k.2 bx,e3,qaD e4 k.1⟩
 ·obtain⟨x,e1,e2,e3⟩:=h5 i o bx hi hb;exact⟨x,e1,e2.same k.1 fun _=>k.2 bx,qaD e3 k.1⟩
theorem hZ.Zg {X:Nat→Prop} {bs:List Nat} (h:hZ A X p mk M os b bw bs):∀z∈bs,z<A.next:=fun z hz=>by
 obtain⟨_,_,_,_,-,-,⟨-,h3,-⟩,-,h5,-⟩:=h;obtain⟨i,hi,rfl⟩:=qbM hz;obtain⟨_,-,-,h⟩:=h5 i _ _ (qan (by omega)) (qan hi);exact h
theorem hZ.more {X:Nat→Prop} {q:Nat} {bs:List Nat} (h:hZ A X p mk M os b bw bs) (k:Kp A B) (hq:A.next≤q) (hq2:q<B.next):hZ B (fun z=>X z∨z=q) p mk M os b bw bs:=by
 have hb:=h.Zg;obtain⟨y,w,rows,ws,h1,h2,h3,h4,h5,⟨n1,n2,n3,n4⟩,n5,⟨n6,n7⟩,n8⟩:=h.kp k;obtain⟨_,_,_,_,⟨⟨d1,-⟩,⟨d2,-⟩,-⟩,-,-,-,-,-,-,⟨d3,d4⟩,-⟩:=h;have no:∀z,¬X z→z<A.next→¬(X z∨z=q):=fun z h hz=>fun h'=>by
  rcases h' with h'|h'
  ·exact h h'
  ·omega
 exact⟨y,w,rows,ws,h1,h2,h3,h4,h5,⟨no p n1 d1,no mk n2 d2,no b n3 d3,no bw n4 d4⟩,fun z hz=>no z (n5 z hz) (hb z hz),⟨n6,n7⟩,fun z hz=>by
  rcases hz with hz|rfl
  ·exact n8 z hz
  ·exact hq2⟩
theorem hZ.less {X Y:Nat→Prop} {bs:List Nat} (h:hZ A X p mk M os b bw bs) (k:∀z,Y z→X z):hZ A Y p mk M os b bw bs:=by
 obtain⟨y,w,rows,ws,h1,h2,h3,h4,h5,⟨n1,n2,n3,n4⟩,n5,n6,n8⟩:=h;exact⟨y,w,rows,ws,h1,h2,h3,h4,h5,⟨fun h=>n1 (k _ h),fun h=>n2 (k _ h),fun h=>n3 (k _ h),fun h=>n4 (k _ h)⟩,fun z hz h=>n5 z hz (k _ h),n6,fun z h=>n8 z (k _ h)⟩
theorem ph:af.ba 180=some (.slice 188):=by kernel_rfl
theorem DP:aR af 188= .ok 4:=by kernel_rfl
theorem Hv:av af 182 (pw b o) 0= .ok (pw b o):=by kernel_rfl
theorem nc:av af 182 (pw b o) 1= .ok (pw b (o+2)):=by kernel_rfl
theorem UP:av af 188 (pw b o) 1= .ok (pw b (o+3)):=by kernel_rfl
theorem Gm:bS af 188= .ok (.agg ⟨[.slice none 0 0,.bool false,uN 0,bN 0]⟩):=by kernel_rfl
noncomputable def wT:Code:=qcV.body.getD .skip
noncomputable def dS:Code:=sub wT [0,0]
theorem QY:qcV.body=some (.block 0 (.loop dS)):=by kernel_rfl
theorem An:dS=(.seq (.seq (sub dS [0,0]) (sub dS [0,1])) (.block 1 (.seq (sub dS [1,0,0]) (.seq (sub dS [1,0,1,0]) (.seq (sub dS [1,0,1,1,0]) (.seq (sub dS [1,0,1,1,1,0]) (.seq (sub dS [1,0,1,1,1,1,0]) (sub dS [1,0,1,1,1,1,1])))))))):=by kernel_rfl
def Gu (o:dI):Prop:=Fit ⟨o.fin,o.out,o.arcs⟩
theorem xG {o:dI} (h:Gu o):Fit (bZ o):=by
 refine⟨qbj (qeH _ _) h.1,fun a ha=>?_⟩;obtain⟨b,hb,rfl⟩:=qa3.1 ha;exact⟨qbj (qeH _ _) (h.2 b hb).1,(h.2 b hb).2⟩
variable {d:Nat} {t:T Value}
theorem Ep {X:Nat→Prop} {u o:dI} {bs:List Nat} (h:hZ A X p mk M (os++[u,o]) b bw bs) (hd:d≤os.length) (hos:os.length<1000)
 (h0:o.fin=true∨o.arcs≠ []) (hl:o.arcs.length≤256) (hul:u.arcs.length≤256) (ho:Gu o) (hM:∀s∈M,Fit s) (hMl:M.length<1000000)
 (g:Sl t [(0,pV p),(1,.int .i64 d)]):
 W af dS ⟨t,67,[],A,none⟩ fun e s'=>e= .nrm∧∃t' A' b' bs',s'=⟨t',67,[],A',none⟩∧Sl t' [(0,pV p),(1,.int .i64 d)]∧
  hZ A' X p mk (gX M (bZ o)).1 (os++[⟨u.fin,u.out,u.arcs++[⟨o.by',bU o,(gX M (bZ o)).2⟩],u.by'⟩]) b' bw bs'∧A.next≤A'.next∧∀z,X z→A'.get z=A.get z:=by
 obtain⟨g0,g1,-⟩:=g;have hblt:=h.Zg;obtain⟨y,w,rows,ws,h1,h2,⟨h3,h3b,h3c⟩,h4,h5,⟨n1,n2,n3,n4⟩,n5,⟨n7,n6⟩,n8⟩:=h;have hp:=h1.1;obtain⟨-,⟨m1,m2⟩,m3,m4,m5⟩:=id h1;have lw:ag af A.get 180 (.pointer (some ⟨p,0+2,none⟩))= .ok w:=hp.ld rfl ph rfl;have len:=h2.len (tb:=af) (st:=180) ph;have hlen:ws.length=os.length+2:=by rw [h3];simp
 rw [hlen] at len;have a1:aM .add .i64 ((d:Nat):Int) ((1:Nat):Int)= .ok (.int .i64 (d+1:Nat)):=bf (aV (by omega));have hgt:d+1<os.length+2:=by omega
 have s1:aM .sub .i64 ((os.length+2:Nat):Int) ((1:Nat):Int)= .ok (.int .i64 (os.length+1:Nat)):=br (by omega) (aV (by omega));have hbl:bs.length=os.length+2:=by rw [h3b];simp
 have hbo:bs[os.length+1]?=some (bs[os.length+1]'(by omega)):=qan (by omega)
 have hbu:bs[os.length]?=some (bs[os.length]'(by omega)):=qan (by omega)
 have hub:bs[os.length]'(by omega)≠bs[os.length+1]'(by omega):=fun e=>absurd ((List.getElem_inj h3c).1 e) (by omega)
 have hot:∀(i z:Nat),i<os.length→bs[i]?=some z→z≠bs[os.length]'(by omega)∧z≠bs[os.length+1]'(by omega):=fun i z hi hz=>by
  obtain⟨_,rfl⟩:=qap.1 hz;exact⟨fun e=>absurd ((List.getElem_inj h3c).1 e) (by omega),fun e=>absurd ((List.getElem_inj h3c).1 e) (by omega)⟩
 have hob:=qbg (l:=bs) (n:=os.length+1) (by omega);have hubm:=qbg (l:=bs) (n:=os.length) (by omega);generalize bs[os.length+1]'(by omega)=bo at hbo hub hob hot
 generalize bs[os.length]'(by omega)=bu at hbu hub hubm hot
 obtain⟨x,hwx,hx,hbx⟩:=h5 (os.length+1) o bo (by rw [qaF (by omega),show os.length+1-os.length=1 by omega];rfl) hbo;obtain⟨xu,hwu,hxu,hbuA⟩:=h5 os.length u bu (by rw [qaF (qao _),qbq];rfl) hbu;obtain⟨_,kw,Qw,hVw,-⟩:=h2.row hwx;have Vw:VB A 188 bw kw Qw:=⟨n6,hVw⟩;obtain⟨dd,hd1,hd2⟩:=a8 (t:=188) (p:=true) (by kernel_rfl);have j1:=h2.idx (tb:=af) (st:=180) (i:=os.length+1) ph DP (by omega);have j2:=h2.aI (tb:=af) hd1 hd2 DP hwx;have hone:∀v∈ja x o,aJ v=true:=by
  intro v hv;simp only [ja,qaK,qbb,or_false] at hv;rcases hv with rfl|rfl|rfl|rfl
  ·exact(az.dk hx.1).2
  all_goals rfl
 have sB:aW af (A.alloc (aa 188 [.slice none 0 0,.bool false,.int .u64 (0:Nat),.int .u8 (0:Nat)])) 188 (.pointer (some ⟨A.next,0,none⟩)) (.agg ⟨ja x o⟩)= .ok (A.alloc (aa 188 (ja x o))):=bk DP rfl rfl (by simp) hone;have kB:=Kp.alloc A (aa 188 (ja x o));have vB:=ay A 188 (ja x o);have nB:(A.alloc (aa 188 (ja x o))).next=A.next+1:=ae _ _
 generalize A.alloc (aa 188 (ja x o))=B at sB kB vB nB;obtain⟨v,C,⟨g2,hg2⟩,rfl,vC,hxC,nC,fC⟩:=FT vB (hx.1.same kB.1 (kB.2 bo)) h0 hl ⟨ho.1,fun a ha=>(ho.2 a ha).1⟩;simp only [pV] at*;rw [An];apply W.seq;apply W.q
 ·intro M;simp (disch:=first|decide+kernel|omega) only [dS,wT,qcV,Aq,qal,g0,g1,ak,aF,nc,lw,len,a1,cT,bY,hgt];rfl
 apply W.run 20
 ·intro M;simp (disch:=first|decide+kernel|omega) only [dS,wT,qcV,Aq,qal];rfl
 apply W.block;apply W.q
 ·intro M;simp (disch:=first|decide+kernel|omega) only [dS,wT,qcV,Aq,qal,g0,ak,aF,nc,lw,len,s1];rfl
 apply W.q
 ·intro M;simp (disch:=first|decide+kernel|omega) only [dS,wT,qcV,Aq,qal,g0,ak,aF,nc,lw,j1,j2,Gm,au,sB];rfl
 apply W.qG (g2)
 ·intro M hM;simp (disch:=first|decide+kernel|omega) only [dS,wT,qcV,Aq,qal,hg2];rfl
 have fAC:∀z,z<A.next→(o.arcs≠ []→z≠bo)→C.get z=A.get z:=fun z hz h=>by rw [fC z (by omega) (by omega) h,kB.2 z hz]
 have hpA:=hp.1;have W8:∀{l:List cJ} {bx:Nat} {x:Value} {e z:Nat} {k:Kd} {q:List Value},oc A bx l x→VB A e z k q→e≠246→l≠ []→z≠bx:=fun hx hz he h=>az.vo hx.1 hz he fun e=>h (qbk.1 e)
 have hpC:VB C 182 p (.var 3) [y,.map (some mk),w]:=⟨by omega,hp.2.same (fAC p hpA fun h=>W8 hx hp (by decide) h)⟩;have lwC:ag af C.get 180 (.pointer (some ⟨p,0+2,none⟩))= .ok w:=hpC.ld rfl ph rfl;obtain⟨w',hpop,h2'⟩:=ie.pop (tb:=af) (st:=180) (P:=ws.take (os.length+1)) (p:=ja x o) (n:=4) (e:=188) (b:=bw) (A:=A) (x:=w) (by
  have:ws=ws.take (os.length+1)++[ja x o]:=by
   have e:=qcx (os.length+1) ws;rw [qbi (by omega),qdK (by omega),(qap.1 hwx).2] at e;exact e.symm
  rw [←this];exact h2) ph DP
 rw [qaE,qbr (by omega)] at hpop;obtain⟨D,sD,vD,nD,fD⟩:=aL (tb:=af) (t:=180) (o:=0+2) (v:=w') (by kernel_rfl) hpC.2 (by simp) (by
  obtain⟨_,_,_,rfl,-⟩:=h2';rfl) (by
  obtain⟨_,_,_,rfl,-⟩:=h2';rfl)
 have lwD:ag af D.get 180 (.pointer (some ⟨p,0+2,none⟩))= .ok w':=aQ ph rfl vD rfl;have hwp:bw≠p:=Vw.ne hp (by decide);have hwb:o.arcs≠ []→bw≠bo:=fun h=>W8 hx Vw (by decide) h
 have h2D:ie D 188 4 bw (ws.take (os.length+1)) w':=h2'.same (by omega) (by rw [fD bw hwp,fAC bw n6 hwb]);have lenD:=h2D.len (tb:=af) (st:=180) ph;have s2:aM .sub .i64 ((os.length+1:Nat):Int) ((1:Nat):Int)= .ok (.int .i64 (os.length:Nat)):=br (by omega) (aV (by omega));have j3:=h2D.idx (tb:=af) (st:=180) (i:=os.length) ph DP (by rw [qaE];omega);apply W.q
 ·intro M;simp (disch:=first|decide+kernel|omega) only [dS,wT,qcV,Aq,qal,g0,ak,aF,nc,lwC,hpop,sD];rfl
 apply W.q
 ·intro M;simp (disch:=first|decide+kernel|omega) only [dS,wT,qcV,Aq,qal,g0,ak,aF,nc,lwD,s2,j3];rfl
 have hwuD:(ws.take (os.length+1))[os.length]?=some (ja xu u):=by rw [qbm,if_pos (by omega)];exact hwu
 have r1:=h2D.load (tb:=af) (j:=0) (t:=184) hwuD mi rfl rfl;rw [qa8] at r1;have vCD:VB D 188 A.next (.var 4) (ja x ⟨o.fin,(bZ o).out,(bZ o).arcs,o.by'⟩):=⟨by have:=vC.1;omega,vC.2.same (fD _ (by omega))⟩
 have r2:ag af D.get 5 (.pointer (some ⟨A.next,0+3,none⟩))= .ok (.int .u8 (o.by'.toNat:Nat)):=vCD.ld rfl u5 rfl;have vP:dw D 188 A.next (.var 4) (cW x (bZ o)):=by
  obtain⟨cc,q1,q2⟩:=vCD.2;refine⟨cc,q1,fun j hj=>?_⟩;rw [q2 j (by simp [cW,ja] at hj⊢;omega)];have:ja x ⟨o.fin,(bZ o).out,(bZ o).arcs,o.by'⟩=cW x (bZ o)++[.int .u8 (o.by'.toNat:Nat)]:=rfl;rw [this,qaJ hj]
 obtain⟨d4,hd4,hd5⟩:=a8 (t:=186) (p:=true) (by kernel_rfl);have r3:ag af D.get 186 (.pointer (some ⟨A.next,0,none⟩))= .ok (.agg ⟨cW x (bZ o)⟩):=aI hd4 hd5 (l:=cW x (bZ o)) jD vP;have hxD:oc D bo (bZ o).arcs x:=⟨az.Zp hxC hpC (by decide) ⟨by omega,fun z _ hz=>fD z hz⟩,fun e=>hx.2 (qbk.1 e)⟩;have hmp:mk≠p:=Ne.symm (hp.gj m2);have fAD:∀z,z<A.next→z≠p→(o.arcs≠ []→z≠bo)→D.get z=A.get z:=fun z hz h h'=>by rw [fD z h,fAC z hz h']
 have hRD:wB D 182 3 p mk b [w'] (M.map fm) rows y:=⟨⟨by omega,vD⟩,⟨by omega,by rw [fAD mk m1 hmp fun h=>az.gj hx.1 m2 fun e=>h (qbk.1 e)];exact m2⟩,az.j_ m3 m5 (by omega) fun hr hb=>fAD b hb (Ne.symm (az.vo m3 hp (by decide) hr)) fun h=>re m3 hx.1 hr (fun e=>h (qbk.1 e)) (by decide),m4,m5⟩;obtain⟨v2,E,⟨g3,hg3⟩,rfl,b',y',rows',hRE,hcase,hb',nE,fE⟩:=uQ (by decide) hRD ⟨bo,hxD.1⟩ (xG ho) hM (by simpa [bZ] using hl) hMl;have hbA:rows≠ []→b<A.next:=fun hr=>o0 m3 hr
 have r1E:=(h2D.same nE (fE bw (by omega) hwp (Vw.gj m2) fun hr=>az.vo m3 Vw (by decide) hr)).load (tb:=af) (j:=0) (t:=184) hwuD mi rfl rfl;have h2E:=h2D.same nE (fE bw (by omega) hwp (Vw.gj m2) fun hr=>az.vo m3 Vw (by decide) hr);rw [qa8] at r1E;have r2E:ag af E.get 5 (.pointer (some ⟨A.next,0+3,none⟩))= .ok (.int .u8 (o.by'.toNat:Nat)):=VB.ld (tb:=af) ⟨by omega,vCD.2.same (fE _ (by omega) (by omega) (by omega) fun hr=>by have:=hbA hr;omega)⟩ rfl u5 rfl;have fAE:∀{l:List cJ} {bx:Nat} {x:Value},oc A bx l x→bx≠bo→oc E bx l x:=fun {l bx x} hx' hne=>hx'.same (by omega) fun h hb=>by
  rw [fE bx (by omega) (Ne.symm (az.vo hx'.1 hp (by decide) h)) (Ne.symm (az.gj hx'.1 m2 h)) fun hr=>re hx'.1 m3 h hr (by decide),fAD bx hb (Ne.symm (az.vo hx'.1 hp (by decide) h)) fun _=>hne]
 have hxuE:=fAE hxu hub;obtain⟨xn,F,happ,hsF,nF,fF⟩:=QM (a:=⟨o.by',bU o,(gX M (bZ o)).2⟩) hxuE.1 (by omega);have hfz:∀z,(u.arcs≠ []→z≠bu)→z<E.next→F.get z=E.get z:=fun z h hz=>fF z (fun e=>qca fun hy=>h (fun h0=>hy (hxu.2 h0)) e) hz
 have h2F:=h2E.same (by omega) (hfz bw (fun h=>W8 hxu Vw (by decide) h) (by omega));obtain⟨G,sG,h2G,nG,fG⟩:=h2F.field (tb:=af) (t:=184) (j:=0) (v:=xn) S8 hwuD (by omega) (az.dk hsF).1 (az.dk hsF).2;rw [qa8] at sG;have bd:=Xh (a:=o.by'.toNat) (o:=bU o) (n:=((gX M (bZ o)).2:Int));have bz:=Xw (a:=o.by'.toNat) (o:=bU o) (n:=((gX M (bZ o)).2:Int));have sx:cG 100 xu xu=true:=by
  rcases hxu.1 with⟨rfl,-⟩|⟨_,_,rfl,-⟩
  ·rfl
  ·exact mN _ _ _ _
 have sy:=eS .u8 o.by'.toNat rfl;have ra:(E.alloc (aa 246 (b6 ⟨o.by',bU o,(gX M (bZ o)).2⟩)))=E.alloc (aa 246 [.int .u8 (o.by'.toNat:Nat),.int .u64 (bU o:Nat),.int .i64 (((gX M (bZ o)).2:Nat):Int)]):=rfl;rw [ra] at happ;apply W.cN (g3) 20
 ·intro M hM;simp (config:={maxSteps:=4000000}) (disch:=first|decide+kernel|omega|simp only [Wq,qal]) only [dS,wT,qcV,Aq,qaq,reduceIte,qal,qam,g0,ak,aF,Hv,nd,UP,fk,r1,r2,r3,hg3,bd,bz,happ,sG,r1E,r2E,sx,sy,Fq,aA [(5,14),(7,14)]];rfl
 have fEG:∀z,z<E.next→z≠bw→(u.arcs≠ []→z≠bu)→G.get z=E.get z:=fun z hz h1 h2=>by rw [fG z h1,hfz z h2 hz]
 obtain⟨q1,⟨q2,q3⟩,q4,q5,q6⟩:=hRE;have VwE:VB E 188 bw kw Qw:=⟨by omega,hVw.same (by rw [fE bw (by omega) hwp (Vw.gj m2) fun hr=>az.vo m3 Vw (by decide) hr,fD bw hwp,fAC bw n6 hwb])⟩;have hu0:u.arcs≠ []→u.arcs.map b6≠ []:=fun h e=>h (qbk.1 e)
 have toG:∀{l:List cJ} {bx:Nat} {x:Value},oc E bx l x→bx≠bu→oc G bx l x:=fun {l bx x} h hne=>h.same (by omega) fun h0 hb=>fEG bx hb (Ne.symm (az.vo h.1 VwE (by decide) h0)) fun _=>hne
 have hnot:∀z,z<A.next→(z∈bs→z=bo)→z∉bs.take os.length++[E.next+1]:=fun z hz h hm=>by
  rcases qbF.1 hm with h1|h1
  ·have:=h (qbH h1);obtain⟨i,hi,e⟩:=qbM h1;rw [qaE] at hi;rw [List.getElem_take] at e;exact(hot i z (by omega) (by rw [qan (by omega),e])).2 this
  ·have:=qaY.1 h1;omega
 have old:∀(i:Nat) (s:aZ),M[i]?=some s→∃x bx,rows[i]?=some (cW x s)∧oc G bx s.arcs x∧bx∉bs.take os.length++[E.next+1]∧bx<G.next:=fun i s hs=>by
  obtain⟨x0,bx,e1,e2,e3,e4⟩:=h4 i s hs;exact⟨x0,bx,e1,toG (fAE e2 fun e=>e3 (e▸hob)) fun e=>e3 (e▸hubm),hnot bx e4 fun h=>absurd h e3,by omega⟩
 refine⟨rfl,_,G,b',bs.take os.length++[E.next+1],rfl,?_,⟨y',w',rows',_,⟨⟨by omega,q1.2.same (fEG p q1.1 (Ne.symm hwp) fun h=>az.vo hxu.1 hp (by decide) (hu0 h))⟩,⟨by omega,by rw [fEG mk q2 (Ne.symm (Vw.gj m2)) fun h=>az.gj hxu.1 m2 (hu0 h)];exact q3⟩,az.j_ q4 q6 (by omega) fun hr hb=>fEG b' hb (Ne.symm (az.vo q4 VwE (by decide) hr)) fun h=>re q4 hxuE.1 hr (hu0 h) (by decide),q5,q6⟩,h2G,⟨?_,?_,?_⟩,fun i s hs=>?_,fun i o' bx hi hb=>?_,⟨n1,n2,?_,n4⟩,fun z hz=>?_,⟨?_,by omega⟩,fun z hz=>by have:=n8 z hz;omega⟩,by omega,fun z hz=>?_⟩
 ·simp only [Sq,qal,qam,g0,g1]
 ·rw [qaQ,qaE,qar];show _=os.length+1;omega
 ·rw [qar,qar,qaE,qaS,qaS];omega
 ·rw [qdR];exact⟨(List.take_sublist _ _).nodup h3c,by simp,fun a ha c hc e=>by
   have:=hblt a (qbH ha);have:=qaY.1 hc;omega⟩
 ·rcases hcase with⟨rfl,hM'⟩|⟨rfl,hM'⟩
  ·rw [hM'] at hs;exact old i s hs
  ·rw [hM'] at hs;rcases qaZ i M.length with hi|hi
   ·rw [qaJ hi] at hs;obtain⟨x0,bx,e1,e2⟩:=old i s hs;exact⟨x0,bx,by rw [qaJ (qap.1 e1).1];exact e1,e2⟩
   ·rw [qaF hi] at hs;obtain⟨e,rfl⟩:i=M.length∧bZ o=s:=by
     cases hq:i-M.length with
     |zero=>rw [hq] at hs;exact⟨by omega,by simpa using hs⟩
     |succ n=>rw [hq] at hs;simp at hs
    refine⟨x,bo,by rw [qaF (by rw [m4,qas];exact hi),m4,qas,e,qbq];rfl,toG (hxD.same nE fun h hb=>fE bo hb (Ne.symm (az.vo hxD.1 (⟨by omega,vD⟩:VB D 182 p (.var 3) _) (by decide) h)) ?_ fun hr=>?_) (Ne.symm hub),hnot bo hbx fun _=>rfl,by omega⟩
    ·exact Ne.symm (az.gj hx.1 m2 fun e=>h (by simpa [bZ] using e))
    ·exact re hx.1 m3 (fun e=>h (by simpa [bZ] using e)) hr (by decide)
 ·rcases qaZ i os.length with hi2|hi2
  ·rw [qaJ hi2] at hi;rw [qaJ (by rw [qaE];omega),qbm,if_pos hi2] at hb;obtain⟨x0,e1,e2,e3⟩:=h5 i o' bx (by rw [qaJ hi2];exact hi) hb;obtain⟨d1,d2⟩:=hot i bx hi2 hb;exact⟨x0,by rw [qbB,if_neg (by omega),qbm,if_pos (by omega)];exact e1,toG (fAE e2 d2) d1,by omega⟩
  ·rw [qaF hi2] at hi;rw [qaF (by rw [qaE];omega),qaE,qbr (by omega)] at hb;cases hq:i-os.length with
   |succ n=>rw [hq] at hi;simp at hi
   |zero=>
    rw [hq] at hi hb;cases hi;cases hb;refine⟨xn,by rw [show i=os.length by omega,qbB,if_pos rfl,if_pos (by rw [qaE];omega)];rfl,⟨hsF.same (by omega) fun _=>fG _ (by omega),fun e=>by simp at e⟩,by omega⟩
 ·rcases hb' with rfl|h
  ·exact n3
  ·exact fun hx=>by have:=n8 _ hx;omega
 ·rcases qbF.1 hz with h1|h1
  ·exact n5 z (qbH h1)
  ·exact fun hx=>by have:=n8 _ hx;have:=qaY.1 h1;omega
 ·rcases hb' with rfl|h<;>omega
 ·have hzA:=n8 z hz;have ne:∀q,¬X q→z≠q:=fun q hq e=>hq (e▸hz)
  rw [fEG z (by omega) (ne _ n4) fun _=>ne _ (n5 _ hubm),fE z (by omega) (ne _ n1) (ne _ n2) fun _=>ne _ n3,fAD z (by omega) (ne _ n1) fun _=>ne _ (n5 _ hob)]
def qB (k m:Nat) (S:qb):Prop:=S.2.1.arcs.length≤k∧(∀u∈S.2.2,u.arcs.length<k)∧S.1.length+S.2.2.length≤m∧(∀s∈S.1,Fit s∧s.arcs.length≤k)∧(Gu S.2.1∧∀u∈S.2.2,Gu u)∧(k≠0→S.2.1.fin=true∨S.2.1.arcs≠ [])
theorem JG (M:List aZ) (s:aZ):M.length≤(gX M s).1.length∧(gX M s).1.length≤M.length+1∧(gX M s).2≤M.length∧∀u∈(gX M s).1,u∈M∨u=s:=by
 unfold gX;cases h:M.findIdx? (fun x=>decide (x=s)) with
 |none=>exact⟨by simp,by simp,qao _,fun u hu=>by simpa using hu⟩
 |some i=>exact⟨qao _,Nat.le_succ _,qeF (qco.1 h).1,fun u hu=>.inl hu⟩
theorem Lm {o:dI} (h0:o.fin=true∨o.arcs≠ []) (h:Gu o):bU o<18446744073709551616:=by
 obtain⟨h1,h2⟩:=AZ h0;rcases h0 with h3|h3
 ·exact qbj (h2 h3) h.1
 ·obtain⟨a,ha⟩:=qdl _ h3;exact qbj (h1 a ha) (h.2 a ha).1
variable {k:Nat}
theorem AX {o u:dI} {w:List dI} (hT:m<1000) (h:qB k m (M,o,u::w)):qB k m ((gX M (bZ o)).1,⟨u.fin,u.out,u.arcs++[⟨o.by',bU o,(gX M (bZ o)).2⟩],u.by'⟩,w):=by
 obtain⟨h1,h2,h3,h4,⟨h5,h6⟩,h7⟩:=h;obtain⟨n1,n2,n3,n4⟩:=JG M (bZ o);have hu:=h2 u qaz;have hfu:=h6 u qaz;simp only [qaA] at h3;refine⟨by simp only [qar,qaA,qaT];omega,fun v hv=>h2 v (qay _ hv),by simp only [];omega,fun s hs=>?_,⟨⟨hfu.1,fun a ha=>?_⟩,fun v hv=>h6 v (qay _ hv)⟩,fun _=>.inr (by simp)⟩
 ·rcases n4 s hs with h|rfl
  ·exact h4 s h
  ·exact⟨xG h5,by simpa [bZ] using h1⟩
 ·rcases qbF.1 ha with h|h
  ·exact hfu.2 a h
  ·rw [qaY.1 h];exact⟨Lm (h7 (by omega)) h5,by simp only [];omega⟩
theorem xQ {k m:Nat} {M:List aZ}:∀(bs:List UInt8) (o:dI) (w:List dI),o.arcs.length≤k→(∀u∈w,u.arcs.length<k+1)→(Gu o∧∀u∈w,Gu u)→M.length+w.length≤m→(∀s∈M,Fit s∧s.arcs.length≤k)→∀v,v<18446744073709551616→
 qB (k+1) (m+bs.length) (Ey v M (e_ bs o w))∧(e_ bs o w).2.length=w.length+bs.length
 | [],o,w,h1,h2,h3,h4,h5,v,hv=>⟨⟨Nat.le_succ_of_le h1,h2,h4,fun s hs=>⟨(h5 s hs).1,Nat.le_succ_of_le (h5 s hs).2⟩,⟨⟨hv,h3.1.2⟩,h3.2⟩,fun _=>.inl rfl⟩,rfl⟩
 |b::bs,o,w,h1,h2,h3,h4,h5,v,hv=>by
  obtain⟨q1,q2⟩:=xQ (k:=k) (m:=m+1) (M:=M) bs ⟨false,0,[],b⟩ (o::w) (qaB _) (fun u hu=>by
   rcases qaK.1 hu with rfl|hu
   ·exact Nat.lt_succ_of_le h1
   ·exact h2 u hu) ⟨⟨by show 0<18446744073709551616;omega,fun a ha=>by cases ha⟩,fun u hu=>by
   rcases qaK.1 hu with rfl|hu
   ·exact h3.1
   ·exact h3.2 u hu⟩ (by simp only [qaA];omega) h5 v hv
  refine⟨?_,by rw [e_,q2];simp only [qaA];omega⟩;rw [e_,qaA,show m+(bs.length+1)=m+1+bs.length by omega];exact q1
theorem jX (hT:m<1000):∀(w:List dI) (M:List aZ) (o:dI),qB k m (M,o,w)→qB k m (eB d M o w)∧(eB d M o w).2.2.length=min d w.length
 | [],M,o,h=>⟨h,by simp [eB]⟩
 |u::w,M,o,h=>by
  rw [eB];split
  ·obtain⟨h1,h2⟩:=jX hT w _ _ (AX hT h);exact⟨h1,by rw [h2,qaA];omega⟩
  ·exact⟨h,by rw [qaA];omega⟩
variable {e:aP}
theorem Jr {S:qb} {z:List UInt8} (hT:m<1000) (h:qB k m S) (hv:val e<18446744073709551616):qB (k+1) (m+e.word.length) (u6 z e S):=by
 obtain⟨M,o,w⟩:=S;obtain⟨⟨h1,h2,h3,h4,h5,-⟩,-⟩:=jX (d:=share z e.word) hT w M o h;have:=(xQ (k:=k) (m:=m) (e.word.drop (share z e.word)) _ _ h1 (fun u hu=>Nat.lt_succ_of_lt (h2 u hu)) h5 h3 h4 (val e) hv).1;obtain⟨a,b,c,d⟩:=this;exact⟨a,b,qaV c (by rw [qc3];omega),d⟩
theorem Hm {X:Nat→Prop} (hk:k≤256) (hT:m<1000) {K:Ex→St→Prop}:∀(ws:List dI) {A:Mem} {M:List aZ} {o:dI} {b bw:Nat} {bs:List Nat} {t:T Value},hZ A X p mk M (o::ws).reverse b bw bs→qB k m (M,o,ws)→Sl t [(0,pV p),(1,.int .i64 d)]→
 (∀t' A' b' bs',hZ A' X p mk (eB d M o ws).1 ((eB d M o ws).2.1::(eB d M o ws).2.2).reverse b' bw bs'→A.next≤A'.next→(∀z,X z→A'.get z=A.get z)→K (.exit 0) ⟨t',67,[],A',none⟩)→d<1000000→W af (.loop dS) ⟨t,67,[],A,none⟩ K:=by
 have stop:∀(ws:List dI) {A:Mem} {M:List aZ} {o:dI} {b bw:Nat} {bs:List Nat} {t:T Value},hZ A X p mk M (o::ws).reverse b bw bs→ws.length≤d→ws.length<1000→Sl t [(0,pV p),(1,.int .i64 d)]→d<1000000→(∀t',K (.exit 0) ⟨t',67,[],A,none⟩)→W af (.loop dS) ⟨t,67,[],A,none⟩ K:=by
  rintro ws A M o b bw bs t h hd hW ⟨g0,g1,-⟩ hd1 hk;obtain⟨y,w,rows,rs,h1,h2,⟨h3,-,-⟩,-⟩:=h;have lw:ag af A.get 180 (.pointer (some ⟨p,0+2,none⟩))= .ok w:=h1.1.ld rfl ph rfl;have len:=h2.len (tb:=af) (st:=180) ph;rw [h3,qb6,qaA] at len;have a1:aM .add .i64 ((d:Nat):Int) ((1:Nat):Int)= .ok (.int .i64 (d+1:Nat)):=bf (aV (by omega));have hgt:¬d+1<ws.length+1:=by omega
  apply W.round;rw [An];apply W.seq;apply W.seq;simp only [pV] at g0;apply W.run 20
  ·intro M;simp (disch:=first|decide+kernel|omega) only [dS,wT,qcV,Aq,qal,g0,g1,ak,aF,nc,lw,len,a1,cT,bY,hgt];rfl
  apply W.run 20
  ·intro M;simp (disch:=first|decide+kernel|omega) only [dS,wT,qcV,Aq,qal];rfl
  exact hk _
 intro ws
 induction ws with
 |nil=>
  intro A M o b bw bs t h hi g hK hd;exact stop [] h (qaB _) (by simp) g hd fun t'=>hK t' A b bs h (qao _) fun _ _=>rfl
 |cons u w ih=>
  intro A M o b bw bs t h hi g hK hd;obtain⟨i1,i2,i3,i4,⟨i5,i6⟩,i7⟩:=id hi;simp only [qaA] at i3;by_cases hc:d≤w.length
  ·apply W.round;rw [show(o::u::w).reverse=w.reverse++[u,o] by simp] at h;refine(Ep h (by rw [qb6];exact hc) (by rw [qb6];omega) (i7 (by have:=i2 u qaz;omega)) (qaV i1 hk) (by have:=i2 u qaz;omega) i5 (fun s hs=>(i4 s hs).1) (by omega) g).mono ?_;rintro e s' ⟨rfl,t',A',b',bs',rfl,g',h',n',f'⟩;refine ih (by rw [qeq];exact h') (AX hT hi) g' (fun t2 A2 b2 Up q1 q2 q3=>?_) hd;rw [eB,if_pos hc] at hK;exact hK t2 A2 b2 Up q1 (qaV n' q2) fun z hz=>by rw [q3 z hz,f' z hz]
  ·rw [eB,if_neg hc] at hK;exact stop (u::w) h (by rw [qaA];omega) (by rw [qaA];omega) g hd fun t'=>hK t' A b bs h (qao _) fun _ _=>rfl
theorem By {X:Nat→Prop} {S:qb} {bs:List Nat} (h:hZ A X p mk S.1 (S.2.1::S.2.2).reverse b bw bs) (hi:qB k m S) (hk:k≤256) (hT:m<1000) (hd:d<1000000):
 ∃v A',bg af 117 [pV p,.int .i64 d] A v A'∧v=bL∧(∃b' bs',hZ A' X p mk (dx d S).1 ((dx d S).2.1::(dx d S).2.2).reverse b' bw bs')∧A.next≤A'.next∧∀z,X z→A'.get z=A.get z:=by
 refine cF (aq Tryz.func117) QY (by kernel_rfl) ?_;apply W.block;refine Hm hk hT S.2.2 h hi ?_ (fun t' A' b' bs' q1 q2 q3=>?_) hd
 ·simp only [Sq,qal,qam]
 ·exact⟨by simp,rfl,_,(by simp only [qcV,Aq,qal]<;>rfl),rfl,⟨b',bs',q1⟩,q2,q3⟩
theorem F5:∀(x y:List UInt8) (i:Nat),i<share x y→∃c,x[i]?=some c∧y[i]?=some c
 |a::x,b::y,i,h=>by
  unfold share at h;split at h
  ·rename_i e;subst e;cases i with
   |zero=>exact⟨a,rfl,rfl⟩
   |succ i=>exact F5 x y i (by omega)
  ·omega
 | [],_,i,h=>by unfold share at h;omega
 |_::_,[],i,h=>by unfold share at h;omega
theorem BH:∀(x y:List UInt8),share x y≤x.length∧share x y≤y.length∧∀a b,x[share x y]?=some a→y[share x y]?=some b→a≠b
 |a::x,b::y=>by
  unfold share;split
  ·obtain⟨h1,h2,h3⟩:=BH x y;exact⟨by simp only [qaA];omega,by simp only [qaA];omega,fun c d hc hd=>h3 c d (by simpa using hc) (by simpa using hd)⟩
  ·exact⟨qaB _,qaB _,fun c d hc hd=>by cases hc;cases hd;assumption⟩
 | [],y=>⟨qao _,qaB _,fun c d hc _=>by simp [share] at hc⟩
 |a::x,[]=>⟨qaB _,qao _,fun c d _ hd=>by simp [share] at hd⟩
theorem Ik (he:e.weight<4294967296):bg af 173 [.agg ⟨a_ e⟩] A (.int .u64 (val e:Nat)) (A.alloc (aa 61 (a_ e))):=by
 have hv:=ay A 61 (a_ e);have l1:ag af (A.alloc (aa 61 (a_ e))).get 59 (.pointer (some ⟨A.next,1,none⟩))= .ok (.int .u32 e.weight):=hv.ld rfl WS rfl;have l2:ag af (A.alloc (aa 61 (a_ e))).get 4 (.pointer (some ⟨A.next,2,none⟩))= .ok (.bool e.gone):=hv.ld rfl u4 rfl;have c1:=bM (tb:=af) (s:=59) (d:=113) (k:=.u32) (n:=e.weight) (by rw [WS];rfl) fp (cV (by omega));unfold val;cases hg:e.gone with
 |true=>
  rw [hg] at l2;refine bm 60 (aq Tryz.func173) (by kernel_rfl) fun M=>?_
  simp (disch:=first|decide+kernel|omega) only [Tryz.f173,Aq,qal,au,TL,l2]<;>rfl
 |false=>
  rw [hg] at l2;refine bm 60 (aq Tryz.func173) (by kernel_rfl) fun M=>?_
  simp (disch:=first|decide+kernel|omega) only [Tryz.f173,Aq,qal,au,XU,TL,l1,l2,c1,yj]<;>rfl
theorem YF:∃i,af.ty.get 188=some i∧0<i.bytes∧i.bytes≤65536:=by
 have h:(af.ty.get 188).map (fun i=>qax 0 i.bytes&&qaq i.bytes 65536)=some true:=by kernel_rfl
 cases hq:af.ty.get 188 with
 |none=>rw [hq] at h;cases h
 |some i=>
  rw [hq] at h;simp only [qa5,qaX,qaO,qaH] at h;exact⟨i,rfl,h.1,qaG h.2⟩
theorem YU:cm af 188= .ok (4,[.slice none 0 0,.bool false,uN 0,bN 0]):=by kernel_rfl
def QG (b:UInt8):dI:=⟨false,0,[],b⟩
theorem Xr {b:UInt8}:ct af 188 [(1,bN b.toNat)]= .ok (.agg ⟨ja (.slice none 0 0) (QG b)⟩):=by kernel_rfl
theorem Xy {b:UInt8}:a6 af 180 1 [(0,.agg ⟨ja (.slice none 0 0) (QG b)⟩)]= .ok (aa 188 (ja (.slice none 0 0) (QG b)),.mO 1 2):=by kernel_rfl
theorem S9:aR af 180= .ok 1:=by kernel_rfl
theorem M6 {X:Nat→Prop} {bs:List Nat} (c:UInt8) (h:hZ A X p mk M os b bw bs) (hl:os.length<100000):
 ∃w w' B C,ag af A.get 180 (.pointer (some ⟨p,0+2,none⟩))= .ok w∧bj af (A.alloc (aa 188 (ja (.slice none 0 0) (QG c)))) 180 180 w (.slice (some ⟨A.next,0,none⟩) 1 2)= .ok (w',B)∧
  aW af B 180 (.pointer (some ⟨p,0+2,none⟩)) w'= .ok C∧(∃bw',hZ C X p mk M (os++[QG c]) b bw' (bs++[A.next]))∧A.next≤C.next∧∀z,X z→C.get z=A.get z:=by
 obtain⟨y,w,rows,ws,⟨h1,⟨m1,m2⟩,m3,m4,m5⟩,h2,⟨h3,h3b,h3c⟩,h4,h5,⟨n1,n2,n3,n4⟩,n5,⟨n7,n6⟩,n8⟩:=h;have kB:=Kp.alloc A (aa 188 (ja (.slice none 0 0) (QG c)));have nB:(A.alloc (aa 188 (ja (.slice none 0 0) (QG c)))).next=A.next+1:=ae _ _
 obtain⟨ti,t1,t2,t3⟩:=YF;obtain⟨w',B,bw',e1,e2,e3,e4,e5⟩:=(h2.same kB.1 (kB.2 bw n6)).push (tb:=af) (st:=180) ph YU t1 t2 t3 (by omega) (by omega) (ax A _) rfl (by simp [ja,aJ]) (by omega) (by omega);rw [nB] at e3 e4 e5;have hp:=h1.1;have fB:∀z,z<A.next→z≠bw→B.get z=A.get z:=fun z hz hw=>by rw [e5 z hw (by omega),kB.2 z hz]
 have hbw:∀(e:TypeId) (z:Nat) (k:Kd) (l:List Value),VB A e z k l→e≠188→z≠bw:=fun e z k l hz he=>by
  rintro rfl;obtain⟨_,_,_,rfl,-,⟨_,q,-⟩,-⟩:=h2;obtain⟨_,q2,-⟩:=hz.2;rw [q] at q2;injection q2 with q2;injection q2 with q2;exact he q2.symm
 have hmw:mk≠bw:=by
  rintro rfl;obtain⟨_,_,_,rfl,-,⟨_,q,-⟩,-⟩:=h2;rw [q] at m2;cases m2
 have one:w'.cells.toList=[w']∧aJ w'=true:=by
  obtain⟨_,_,_,rfl,-⟩:=e2;exact⟨rfl,rfl⟩
 obtain⟨C,sC,vC,nC,fC⟩:=aL (tb:=af) (t:=180) (o:=0+2) (v:=w') S9 (h1.2.same (fB p hp (hbw _ _ _ _ h1 (by decide)))) (by simp) one.1 one.2;have hbp:bw'≠p:=by
  rcases e3 with rfl|rfl
  ·exact Ne.symm (hbw _ _ _ _ h1 (by decide))
  ·omega
 have toC:∀{l:List cJ} {bx:Nat} {x:Value},oc A bx l x→oc C bx l x:=fun {l bx x} hx=>hx.same (by omega) fun h0 hb=>by
  rcases hx.1 with⟨-,hh⟩|⟨k,_,-,h6,h7,-⟩
  ·exact absurd hh h0
  ·have V:VB A 246 bx k _:=⟨h6,h7⟩;rw [fC bx (V.ne h1 (by decide)),fB bx hb (hbw _ _ _ _ V (by decide))]
 refine⟨w,w',B,C,h1.ld rfl ph rfl,e1,sC,⟨bw',y,w',rows,_,⟨⟨by omega,vC⟩,⟨by omega,by rw [fC mk (Ne.symm (h1.gj m2)),fB mk m1 hmw];exact m2⟩,az.j_ m3 m5 (by omega) fun hr hb=>?_,m4,m5⟩,e2.same (by omega) (fC bw' hbp),⟨by rw [qar,qar,h3];rfl,by rw [qar,qar,h3b];rfl,?_⟩,fun i s hs=>?_,fun i o bx hi hb=>?_,⟨n1,n2,n3,by
  rcases e3 with rfl|rfl
  ·exact n4
  ·exact fun hx=>by have:=n8 _ hx;omega⟩,fun z hz=>?_,⟨by omega,?_⟩,fun z hz=>by have:=n8 z hz;omega⟩,by omega,fun z hz=>by rw [fC z (fun e=>n1 (e▸hz)),fB z (n8 z hz) fun e=>n4 (e▸hz)]⟩
 ·rcases m3 with⟨-,hh⟩|⟨k,_,-,h6,h7,-⟩
  ·exact absurd hh hr
  ·have V:VB A 186 b k _:=⟨h6,h7⟩;rw [fC b (V.ne h1 (by decide)),fB b hb (hbw _ _ _ _ V (by decide))]
 ·rw [qdR];refine⟨h3c,by simp,fun z hz q hq e=>?_⟩;obtain⟨i,hi,rfl⟩:=qbM hz;obtain⟨_,-,-,hlt⟩:=h5 i _ _ (qan (by omega)) (qan hi);have:=qaY.1 hq;omega
 ·obtain⟨x,bx,q1,q2,q3,q4⟩:=h4 i s hs;exact⟨x,bx,q1,toC q2,fun hm=>by
   rcases qbF.1 hm with hm|hm
   ·exact q3 hm
   ·have:=qaY.1 hm;omega,by omega⟩
 ·rcases qaZ i os.length with hi2|hi2
  ·rw [qaJ hi2] at hi;rw [qaJ (by omega)] at hb;obtain⟨x,q1,q2,q3⟩:=h5 i o bx hi hb;exact⟨x,by rw [qaJ (by omega)];exact q1,toC q2,by omega⟩
  ·rw [qaF hi2] at hi;rw [qaF (by omega),h3b] at hb;cases hq:i-os.length with
   |succ n=>rw [hq] at hi;simp at hi
   |zero=>
    rw [hq] at hi hb;cases hi;cases hb;exact⟨.slice none 0 0,by rw [qaF (by omega),h3,hq];rfl,⟨az.nil _ _ _ _,fun _=>rfl⟩,by omega⟩
 ·rcases qbF.1 hz with hz|hz
  ·exact n5 z hz
  ·exact fun hx=>by have:=n8 _ hx;have:=qaY.1 hz;omega
 ·obtain⟨_,_,_,-,h,-⟩:=e2;omega
theorem QR {X:Nat→Prop} {o:dI} {bs:List Nat} (v:Nat) (h:hZ A X p mk M (os++[o]) b bw bs) (hl:os.length<100000):
 ∃B C,aW af A 4 (pw bw (os.length*4+1)) (.bool true)= .ok B∧aW af B 113 (pw bw (os.length*4+2)) (.int .u64 v)= .ok C∧hZ C X p mk M (os++[⟨true,v,o.arcs,o.by'⟩]) b bw bs∧C.next=A.next∧∀z,X z→C.get z=A.get z:=by
 obtain⟨y,w,rows,ws,⟨h1,⟨m1,m2⟩,m3,m4,m5⟩,h2,⟨h3,h3b,h3c⟩,h4,h5,⟨n1,n2,n3,n4⟩,n5,⟨n7,n6⟩,n8⟩:=h;rw [qar,qaS] at h3 h3b;obtain⟨x,hwx,hx,-⟩:=h5 os.length o _ (by rw [qaF (qao _),qbq];rfl) (qan (by omega));obtain⟨_,kw,Qw,hVw,-⟩:=h2.row hwx;have Vw:VB A 188 bw kw Qw:=⟨n6,hVw⟩;obtain⟨B,s1,hB,nB,fB⟩:=h2.field (tb:=af) (t:=4) (j:=1) (v:=.bool true) (by kernel_rfl) hwx (by omega) rfl rfl;obtain⟨C,s2,hC,nC,fC⟩:=hB.field (tb:=af) (t:=113) (j:=2) (v:=.int .u64 v) (by kernel_rfl) (by rw [qbB,if_pos rfl,if_pos (by omega)]) (by omega) rfl rfl;rw [List.set_set] at hC;have fAC:∀z,z≠bw→C.get z=A.get z:=fun z hz=>by rw [fC z hz,fB z hz]
 have toC:∀{l:List cJ} {bx:Nat} {x:Value},oc A bx l x→oc C bx l x:=fun {l bx x} hx=>hx.same (by omega) fun h0 _=>fAC bx (Ne.symm (az.vo hx.1 Vw (by decide) h0))
 refine⟨B,C,s1,s2,⟨y,w,rows,_,⟨⟨by have:=h1.1;omega,h1.2.same (fAC p (h1.ne Vw (by decide)))⟩,⟨by omega,by rw [fAC mk (Ne.symm (Vw.gj m2))];exact m2⟩,az.j_ m3 m5 (by omega) fun hr _=>fAC b (Ne.symm (az.vo m3 Vw (by decide) hr)),m4,m5⟩,hC,⟨by rw [qaQ,h3,qar];rfl,by rw [h3b,qar];rfl,h3c⟩,fun i s hs=>?_,fun i o' bx hi hb=>?_,⟨n1,n2,n3,n4⟩,n5,⟨by omega,by omega⟩,fun z hz=>by have:=n8 z hz;omega⟩,by omega,fun z hz=>fAC z fun e=>n4 (e▸hz)⟩
 ·obtain⟨x,bx,q1,q2,q3,q4⟩:=h4 i s hs;exact⟨x,bx,q1,toC q2,q3,by omega⟩
 ·rcases qaZ i os.length with hi2|hi2
  ·rw [qaJ hi2] at hi;obtain⟨x,q1,q2,q3⟩:=h5 i o' bx (by rw [qaJ hi2];exact hi) hb;exact⟨x,by rw [qbB,if_neg (by omega)];exact q1,toC q2,by omega⟩
  ·have e:i=os.length:=by
    have:=(qap.1 hi).1;rw [qar,qaS] at this;omega
   subst e;rw [qaF (qao _),qbq] at hi;cases hi;obtain⟨x2,q1,q2,q3⟩:=h5 os.length o bx (by rw [qaF (qao _),qbq];rfl) hb;rw [hwx] at q1;obtain rfl:x=x2:=by simpa [ja] using q1
   exact⟨x,by rw [qbB,if_pos rfl,if_pos (by omega)];rfl,toC q2,by omega⟩
theorem yC:∀(bs:List UInt8) (o:dI) (w:List dI),((e_ bs o w).1::(e_ bs o w).2).reverse=(o::w).reverse++bs.map QG
 | [],o,w=>by simp [e_]
 |b::bs,o,w=>by
  rw [e_,yC bs];simp [QG]
noncomputable def mq:Code:=qcm.body.getD .skip
noncomputable def mW:Code:=sub mq [1,1,0,0,0]
noncomputable def GI:Code:=sub mq [1,1,1,1,0,1,0,0]
theorem QT:qcm.body=some (.seq (sub mq [0]) (.seq (sub mq [1,0]) (.seq (.block 0 (.loop mW)) (.seq (sub mq [1,1,1,0]) (.seq (.seq (sub mq [1,1,1,1,0,0]) (.block 2 (.loop GI))) (.seq (sub mq [1,1,1,1,1,0]) (sub mq [1,1,1,1,1,1]))))))):=by kernel_rfl
theorem SG {X:Nat→Prop} {S:qb} {bs:List Nat} {z:List UInt8} (h:hZ A X p mk S.1 (S.2.1::S.2.2).reverse b bw bs) (hi:qB k m S) (hk:k≤256) (hm:m+e.word.length<1000) (hz:z.length<1000) (he:e.weight<4294967296):
 ∃v A',bg af 116 [pV p,aj z,.agg ⟨a_ e⟩] A v A'∧v=bL∧(∃b' bw' bs',hZ A' X p mk (u6 z e S).1 ((u6 z e S).2.1::(u6 z e S).2.2).reverse b' bw' bs')∧A.next≤A'.next∧∀z,X z→A'.get z=A.get z:=by
 refine cF (aq Tryz.func116) QT (by kernel_rfl) ?_;have kB:=Kp.alloc A (aa 61 (a_ e));have vB:=ay A 61 (a_ e);have nB:(A.alloc (aa 61 (a_ e))).next=A.next+1:=ae _ _
 have hX:∀z,X z→z<A.next:=by obtain⟨_,_,_,_,-,-,-,-,-,-,-,-,h⟩:=h;exact h
 apply W.q
 ·intro M;simp (disch:=first|decide+kernel|omega) only [mq,qcm,Aq,qal,au];rfl
 generalize A.alloc (aa 61 (a_ e))=B at kB vB nB;have hB:=h.more kB (qao _) (by omega);have lw:=fun(D:Mem) (hD:VB D 61 A.next (.var 3) (a_ e))=>VB.ld (tb:=af) (t:=9) (o:=0) hD rfl u9 rfl
 have lwB:=lw B vB;have hlz:=cP (tb:=af) (t:=9) (l:=z) u9;have hlw:=cP (tb:=af) (t:=9) (l:=e.word) u9;obtain⟨e1,e2,e3⟩:=BH z e.word;have hws:e.word.length<1000:=by omega
 apply W.q
 ·intro M;simp (disch:=first|decide+kernel|omega) only [mq,qcm,Aq,qal];rfl
 apply W.seq;apply W.block;refine W.up (share z e.word) (fun i t D=>D=B∧Sl t [(0,pV p),(1,aj z),(5,pV A.next),(6,.int .i64 i)]) ?_ (qaB _) ⟨rfl,?_⟩
 ·rintro i t D hi2 ⟨rfl,g0,g1,g5,g6,-⟩;simp only [pV] at g5;by_cases hlt:i<share z e.word
  ·obtain⟨c,hc1,hc2⟩:=F5 z e.word i hlt;have l1:i<z.length:=by omega
   have l2:i<e.word.length:=by omega
   have i1:=dQ (tb:=af) (t:=9) (kd:=.i64) u9 l1;have i2:=dQ (tb:=af) (t:=9) (kd:=.i64) u9 l2;rw [qa9,hc1] at i1;rw [qa9,hc2] at i2;apply W.run 20
   ·intro M;simp (config:={maxSteps:=4000000}) (disch:=first|decide+kernel|omega|simp only [Wq,qal]) only [mW,mq,qcm,Aq,qaq,reduceIte,qal,qam,g1,g5,g6,hlz,l1,jT,lwB,hlw,l2,i1,i2,Fq,aA []];rfl
   refine⟨hlt,_,_,rfl,rfl,?_⟩;simp only [Sq,qal,qam,g0,g1,g5,pV]
  ·have e0:i=share z e.word:=by omega
   subst e0;have fin:W af (sub mW [0]) ⟨t,78,[],D,none⟩ fun ex s=>∃t',ex= .exit 0∧s=⟨t',78,[],D,none⟩∧Sl t' [(0,pV p),(1,aj z),(5,pV A.next),(6,iN (share z e.word))]:=by
    by_cases l1:share z e.word<z.length
    ·have i1:=dQ (tb:=af) (t:=9) (kd:=.i64) u9 l1;by_cases l2:share z e.word<e.word.length
     ·have i2:=dQ (tb:=af) (t:=9) (kd:=.i64) u9 l2;have hne:¬((z.getD (share z e.word) 0).toNat=(e.word.getD (share z e.word) 0).toNat):=fun h=>e3 _ _ (qan l1) (qan l2) (by
       rw [qa9,qa9,qan l1,qan l2] at h;exact qdf.1 h)
      apply W.run 20
      ·intro M;simp (config:={maxSteps:=4000000}) (disch:=first|decide+kernel|omega|simp only [Wq,qal]) only [mW,mq,qcm,Aq,qaq,reduceIte,qal,qam,g1,g5,g6,hlz,l1,jT,lwB,hlw,l2,i1,i2,hne,Fq,aA []];rfl
      refine⟨_,rfl,rfl,?_⟩;simp only [Sq,qal,qam,g0,g1,g5,g6,pV]
     ·apply W.run 20
      ·intro M;simp (config:={maxSteps:=4000000}) (disch:=first|decide+kernel|omega|simp only [Wq,qal]) only [mW,mq,qcm,Aq,qaq,reduceIte,qal,qam,g1,g5,g6,hlz,l1,jT,lwB,hlw,l2,Fq,aA []];rfl
      refine⟨_,rfl,rfl,?_⟩;simp only [Sq,qal,qam,g0,g1,g5,g6,pV]
    ·apply W.run 20
     ·intro M;simp (config:={maxSteps:=4000000}) (disch:=first|decide+kernel|omega|simp only [Wq,qal]) only [mW,mq,qcm,Aq,qaq,reduceIte,qal,qam,g1,g5,g6,hlz,l1,jT,lwB,hlw,Fq,aA []];rfl
     refine⟨_,rfl,rfl,?_⟩;simp only [Sq,qal,qam,g0,g1,g5,g6,pV]
   rw [show mW= .seq (sub mW [0]) (sub mW [1]) by kernel_rfl];apply W.seq;refine fin.mono ?_;rintro _ _ ⟨t',rfl,rfl,g0,g1,g5,g6,-⟩;show W af _ _ _;obtain⟨iv,il⟩:=jX (d:=share z e.word) (by omega) S.2.2 S.1 S.2.1 hi;obtain⟨v,C,⟨g2,hg2⟩,rfl,⟨b1,TE,hC⟩,nC,fC⟩:=By (d:=share z e.word) hB hi hk (by omega) (by omega);have hvA:=vB.1;have hvC:VB C 61 A.next (.var 3) (a_ e):=⟨by omega,vB.2.same (fC _ (.inr rfl))⟩
   have hadd:u6 z e S=Ey (val e) (dx (share z e.word) S).1 (e_ (e.word.drop (share z e.word)) (dx (share z e.word) S).2.1 (dx (share z e.word) S).2.2):=rfl;rw [hadd];have il2:(dx (share z e.word) S).2.2.length≤share z e.word:=by rw [show(dx (share z e.word) S).2.2.length=_ from il];omega
   generalize dx (share z e.word) S=S1 at hC il2;generalize hd:share z e.word=d at*;simp only [pV] at g0 g5 hg2;apply W.qG (g2)
   ·intro M hM;simp (disch:=first|decide+kernel|omega) only [mq,qcm,Aq,qal,g0,g6,hg2,bL];rfl
   apply W.seq;apply W.q
   ·intro M;simp (disch:=first|decide+kernel|omega) only [mq,qcm,Aq,qal,g6];rfl
   apply W.block;have hdl:(e.word.drop d).length=e.word.length-d:=qc3;refine W.up (e.word.drop d).length (fun j t E=>(∃bw bs,hZ E (fun x=>X x∨x=A.next) p mk S1.1 ((S1.2.1::S1.2.2).reverse++((e.word.drop d).take j).map QG) b1 bw bs)∧(C.next≤E.next∧∀x,X x∨x=A.next→E.get x=C.get x)∧Sl t [(0,pV p),(5,pV A.next),(7,iN (d+j))]) ?_ (qaB _) ⟨⟨bw,TE,by rw [qcy,qcp,qbt];exact hC⟩,⟨qao _,fun _ _=>rfl⟩,?_⟩
   ·rintro j t E hj ⟨⟨bw2,Up,hE⟩,⟨nE,fE⟩,g0,g5,g7,-⟩;simp only [pV] at g0 g5;have hvE:VB E 61 A.next (.var 3) (a_ e):=⟨by have:=hvC.1;omega,hvC.2.same (fE _ (.inr rfl))⟩
    have lE:=lw E hvE;by_cases hlt:j<(e.word.drop d).length
    ·have l2:d+j<e.word.length:=by omega
     have i2:=dQ (tb:=af) (t:=9) (kd:=.i64) u9 l2;obtain⟨w,w',F,G,l1,ap,sG,⟨bw3,hG⟩,nG,fG⟩:=M6 (e.word.getD (d+j) 0) hE (by
      rw [qar,qb6,qaA,qas,qaE];omega)
     have a1:aM .add .i64 ((d+j:Nat):Int) ((1:Nat):Int)= .ok (iN (d+(j+1))):=bf (aV (by omega));have bo:=Xr (b:=e.word.getD (d+j) 0);have bz:=Xy (b:=e.word.getD (d+j) 0);apply W.run 20
     ·intro M;simp (config:={maxSteps:=4000000}) (disch:=first|decide+kernel|omega|simp only [Wq,qal]) only [GI,mq,qcm,Aq,qaq,reduceIte,qal,qam,g0,g5,g7,jT,lE,hlw,l2,ak,aF,nc,l1,i2,bo,bz,ap,sG,a1,Fq,aA []];rfl
     refine⟨hlt,_,G,rfl,⟨bw3,Up++[E.next],?_⟩,⟨by omega,fun x hx=>by rw [fG x hx,fE x hx]⟩,?_⟩
     ·have e1:(e.word.drop d)[j]=e.word.getD (d+j) 0:=by rw [List.getElem_drop,qa9,qan l2];rfl
      rw [qaC hlt,qbe,e1,←qbh];exact hG
     ·simp only [Sq,qal,qam,g0,g5,pV]
    ·have e0:j=(e.word.drop d).length:=by omega
     subst e0;have l2:¬d+(e.word.drop d).length<e.word.length:=by omega
     apply W.run 20
     ·intro M;simp (disch:=first|decide+kernel|omega) only [GI,mq,qcm,Aq,qal,g5,g7,jT,lE,hlw,l2];rfl
     show W af _ _ _;rw [qaR,←yC,qeq] at hE;have hq:=hE;obtain⟨y,w,rows,ws,⟨h1,-⟩,h2,⟨h3,-,-⟩,-⟩:=hE;have hln:(e_ (e.word.drop d) S1.2.1 S1.2.2).2.length<3000:=by
      have:=congrArg qcE (yC (e.word.drop d) S1.2.1 S1.2.2);simp only [qb6,qaA,qar,qas] at this;omega
     rw [qar,qb6,qaS] at h3;have l1:ag af E.get 180 (pw p (0+2))= .ok w:=h1.ld rfl ph rfl;have len:=h2.len (tb:=af) (st:=180) ph;have s1:aM .sub .i64 ((ws.length:Nat):Int) ((1:Nat):Int)= .ok (iN ((e_ (e.word.drop d) S1.2.1 S1.2.2).2.length)):=by
      rw [br (by omega) (aV (by omega)),h3];rfl
     have j1:=h2.idx (tb:=af) (st:=180) (i:=(e_ (e.word.drop d) S1.2.1 S1.2.2).2.length) ph DP (by omega);obtain⟨d4,hd4,hd5⟩:=a8 (t:=61) (p:=true) (by kernel_rfl);have lA:ag af E.get 61 (pw A.next 0)= .ok (.agg ⟨a_ e⟩):=aI hd4 hd5 (l:=a_ e) IG hvE.2;obtain⟨g3,hg3⟩:=Ik (A:=E) he;have kF:=Kp.alloc E (aa 61 (a_ e));obtain⟨G,H,sG,sH,hH,nH,fH⟩:=QR (val e) (hq.kp kF) (by rw [qb6];omega);rw [qb6] at sG sH;generalize E.alloc (aa 61 (a_ e))=F at*;have hEA:=hX;apply W.q
     ·intro M;simp (config:={maxSteps:=4000000}) (disch:=first|decide+kernel|omega|simp only [Wq,qal]) only [mq,qcm,Aq,qaq,reduceIte,qal,qam,g0,ak,aF,nc,l1,len,s1,j1,Fq,aA []];rfl
     apply W.cN (g3) 20
     ·intro M hM;simp (disch:=first|decide+kernel|omega) only [mq,qcm,Aq,qal,g5,lA,hg3,ak,aF,nd,ee,m_,sG,sH];rfl
     have n1:=kF.1;refine⟨by simp,rfl,_,(by simp only [qcm,Aq,qal]<;>rfl),rfl,⟨b1,bw2,Up,?_⟩,?_,fun x hx=>?_⟩
     ·show hZ H X p mk S1.1 (_::_).reverse b1 bw2 Up;rw [qeq];exact hH.less fun _ h=>.inl h
     ·show A.next≤H.next
      have:=kB.1;omega
     ·show H.get x=A.get x;have:=hX x hx;have:=kB.1;rw [fH x (.inl hx),kF.2 x (by omega),fE x (.inl hx),fC x (.inl hx),kB.2 x (by omega)]
   ·simp only [Sq,qal,qam,g0,g5,pV,qa8]
 ·simp only [Sq,qal,qam,pV]
theorem YO:af.ba 9=some .string:=ov
variable {w:List UInt8}
theorem SO (h:1≤w.length∧w.length≤255):bg af 220 [aj w] A (.bool true) A:=by
 have hl:=cP (tb:=af) (t:=9) (l:=w) YO;have h0:w≠ []:=fun e=>by rw [e] at h;simp at h
 have he:∀t:T Value,ev t (.const (.string ⟨#[]⟩))= .ok (aj []):=fun _=>rfl
 have h2:=h.2;refine bm 60 (aq Tryz.func220) (by kernel_rfl) fun M=>?_
 simp (config:={maxSteps:=4000000}) (disch:=first|decide+kernel|omega|simp only [Wq,qal]) only [Tryz.f220,Aq,qaq,reduceIte,qal,qam,hl,he,h0,nt,cL,h2]<;>rfl
noncomputable def wX:Code:=qdZ.body.getD .skip
noncomputable def G4:Code:=sub wX [1,0,1,0,0]
theorem Rl:qdZ.body=some (.seq (sub wX [0]) (.seq (.seq (sub wX [1,0,0]) (.block 0 (.loop G4))) (.seq (sub wX [1,1,0]) (sub wX [1,1,1])))):=by kernel_rfl
theorem Qj:af.ba 91=some (.slice 9):=by kernel_rfl
theorem Pj (h:1≤w.length∧w.length≤255):bg af 221 [.func (.func 220) ⟨[]⟩ ⟨[]⟩,.slice (some ⟨A.next,0,none⟩) 1 2] (A.alloc (aa 9 [aj w])) (.bool true) (A.alloc (aa 9 [aj w])):=by
 refine wI (aq Tryz.func221) Rl (by kernel_rfl) ?_;have vB:=ay A 9 [aj w];have hS:az (A.alloc (aa 9 [aj w])) 9 1 A.next [[aj w]] (.slice (some ⟨A.next,0,none⟩) 1 2):=.inr ⟨.var 1,2,rfl,vB.1,vB.2,by simp,.inl rfl⟩
 have ll:=az.len (tb:=af) hS Qj;have j1:=az.idx (tb:=af) (t:=91) (i:=0) (kd:=.i64) hS Qj (by kernel_rfl) (by simp);have j2:ag af (A.alloc (aa 9 [aj w])).get 9 (pw A.next (0*1))= .ok (aj w):=vB.ld rfl u9 rfl;generalize A.alloc (aa 9 [aj w])=B at*;obtain⟨g,hg⟩:=SO (A:=B) h;apply W.q
 ·intro M;simp (disch:=first|decide+kernel|omega) only [wX,qdZ,Aq,qal];rfl
 apply W.seq;apply W.q
 ·intro M;simp (disch:=first|decide+kernel|omega) only [wX,qdZ,Aq,qal,ll,qaA,qaT];rfl
 apply W.block;apply W.round;apply W.cN (g) 20
 ·intro M hM;simp (config:={maxSteps:=4000000}) (disch:=first|decide+kernel|omega|simp only [Wq,qal]) only [G4,wX,qdZ,Aq,qaq,reduceIte,qal,qam,Nat.zero_lt_one,j1,j2,hg];rfl
 apply W.round;apply W.run 20
 ·intro M;simp (disch:=first|decide+kernel|omega) only [G4,wX,qdZ,Aq,qal,qdh];rfl
 apply W.q
 ·intro M;simp (disch:=first|decide+kernel|omega) only [wX,qdZ,Aq,qal];rfl
 apply W.run 20
 ·intro M;simp (disch:=first|decide+kernel|omega) only [wX,qdZ,Aq,qal];rfl
 exact⟨by simp,rfl,rfl,by simp only [qdZ,Aq,qal]<;>rfl⟩
theorem PM (h:1≤w.length∧w.length≤255):bg af 171 [.slice (some ⟨A.next,0,none⟩) 1 2] (A.alloc (aa 9 [aj w])) (iN 0) (A.alloc (aa 9 [aj w])):=by
 obtain⟨g,hg⟩:=Pj (A:=A) h;refine aT (g) 60 (aq Tryz.func171) (by kernel_rfl) fun M hM=>?_
 simp (disch:=first|decide+kernel|omega) only [Tryz.f171,Aq,qal,hg,oM]<;>rfl
theorem J0:bg af 259 [aj w] A (.bool false) A:=by
 refine bm 60 (aq Tryz.func259) (by kernel_rfl) fun M=>?_
 simp (disch:=first|decide+kernel|omega) only [Tryz.f259,Aq,qal]<;>rfl
theorem SL {a b:List UInt8} (h:aX a b=true):bg af 222 [aj a,aj b] A (.int .i64 (-1)) A:=by
 obtain⟨g1,h1⟩:=J0 (A:=A) (w:=a);obtain⟨g2,h2⟩:=J0 (A:=A) (w:=b);have hs:fb .lss a b= .ok (.bool true):=by
  show R.ok (Value.bool (aX a b))=_;rw [h]
 refine aT (g1+g2) 60 (aq Tryz.func222) (by kernel_rfl) fun M hM=>?_
 simp (disch:=first|decide+kernel|omega) only [Tryz.f222,Aq,qal,h1,h2,hs,TJ]<;>rfl
theorem H4 (h:aX e.word w=true):bg af 172 [.agg ⟨a_ e⟩,aj w] A (.int .i64 (-1)) (A.alloc (aa 61 (a_ e))):=by
 have l1:ag af (A.alloc (aa 61 (a_ e))).get 9 (pw A.next 0)= .ok (aj e.word):=(ay A 61 (a_ e)).ld rfl u9 rfl;obtain⟨g,hg⟩:=SL (A:=A.alloc (aa 61 (a_ e))) h;refine aT (g) 60 (aq Tryz.func172) (by kernel_rfl) fun M hM=>?_
 simp (disch:=first|decide+kernel|omega) only [Tryz.f172,Aq,qal,au,jT,l1,hg]<;>rfl
noncomputable def qK:Code:=qdn.body.getD .skip
noncomputable def Cs:Code:=sub qK [1,0,1,1,0,1,0,0]
theorem QX:qdn.body=some (.seq (sub qK [0]) (.scope (.seq (sub qK [1,0,0]) (.seq (sub qK [1,0,1,0]) (.seq (.seq (sub qK [1,0,1,1,0,0]) (.block 0 (.loop Cs))) (.seq (sub qK [1,0,1,1,1,0]) (sub qK [1,0,1,1,1,1]))))))):=by kernel_rfl
theorem Vm:¬(((0:Nat):Int)≤-1):=by decide
theorem H8 {l:List aP} {x:Value} (h:en A l x) (ha:rk l) (hw:∀e∈l,1≤e.word.length∧e.word.length≤255) (hl:l.length<1000000):∃v A',bg af 115 [x] A v A'∧v= .tuple ⟨[.int .i64 (-1),iN 0]⟩∧Kp A A':=by
 refine cF (aq Tryz.func115) QX (by kernel_rfl) ?_;have hlen:=h.len;apply W.q
 ·intro M;simp (disch:=first|decide+kernel|omega) only [qK,qdn,Aq,qal];rfl
 apply W.scope;apply W.q
 ·intro M;simp (disch:=first|decide+kernel|omega) only [qK,qdn,Aq,qal,TJ];rfl
 apply W.seq;refine W.run 1 (fun m=>rfl) ?_;apply W.seq;apply W.q
 ·intro M;simp (disch:=first|decide+kernel|omega) only [qK,qdn,Aq,qal,hlen];rfl
 apply W.block;refine W.up l.length (fun i t D=>Kp A D∧Sl t [(0,x),(2,.int .i64 (-1)),(3,iN 0),(6,x),(7,iN l.length),(8,.int .i64 i)]) ?_ (qaB _) ⟨Kp.refl _,?_⟩
 ·rintro i t D hi ⟨kD,g0,g2,g3,g6,g7,g8,-⟩;by_cases hlt:i<l.length
  ·have he:l[i]?=some l[i]:=qan hlt;obtain⟨p,j1,j2,-⟩:=(h.kp kD).at he;have hwe:=hw _ (qbg hlt);have kE:=Kp.alloc D (aa 61 (a_ l[i]));have sE:aW af (D.alloc (aa 61 (a_ ⟨[],0,false⟩))) 61 (pw D.next 0) (.agg ⟨a_ l[i]⟩)= .ok (D.alloc (aa 61 (a_ l[i]))):=bk (by kernel_rfl) rfl rfl (by simp [a_]) (vX _);have vE:=ay D 61 (a_ l[i]);have hEE:=(h.kp kD).kp kE;have IG:bS af 61= .ok (.agg ⟨a_ ⟨[],0,false⟩⟩):=WJ;generalize hE:D.alloc (aa 61 (a_ l[i]))=E at kE sE vE hEE;have lw:∀F,Kp E F→ag af F.get 9 (pw D.next 0)= .ok (aj l[i].word):=fun F hF=>(vE.kp hF).ld rfl u9 rfl
   have lE:=lw E (Kp.refl _);obtain⟨g,hg⟩:=PM (A:=E) hwe;have bs:a6 af 91 1 [(0,aj l[i].word)]= .ok (aa 9 [aj l[i].word],.mO 1 2):=by kernel_rfl
   have kF:=Kp.alloc E (aa 9 [aj l[i].word]);have lF:=lw _ kF;by_cases h0:0<i
   ·have he2:l[i-1]?=some l[i-1]:=qan (by omega);obtain⟨p2,k1,k2,-⟩:=(hEE.kp kF).at he2;have sub1:aM .sub .i64 ((i:Nat):Int) ((1:Nat):Int)= .ok (iN (i-1)):=br (by omega) (aV (by omega));have hb:=MZ ha he2 (by rw [show i-1+1=i by omega];exact he);obtain⟨gb,hg2⟩:=H4 (A:=E.alloc (aa 9 [aj l[i].word])) hb;apply W.cN (g+gb) 20
    ·intro M hM;simp (config:={maxSteps:=4000000}) (disch:=first|decide+kernel|omega|simp only [Wq,qal]) only [Cs,qK,qdn,Aq,qaq,reduceIte,qal,qam,g0,g3,g6,g7,g8,hlt,j1,j2,IG,au,hE,sE,jT,lE,bs,hg,cT,bY,h0,sub1,k1,k2,lF,hg2,Vm,(show qaw 1 2=false from rfl),Fq,aA []];rfl
    refine⟨hlt,_,_,rfl,kD.trans (kE.trans (kF.trans (Kp.alloc _ _))),?_⟩;simp only [Sq,qal,qam,g0,g2,g3,g6,g7]
   ·apply W.cN (g) 20
    ·intro M hM;simp (config:={maxSteps:=4000000}) (disch:=first|decide+kernel|omega|simp only [Wq,qal]) only [Cs,qK,qdn,Aq,qaq,reduceIte,qal,qam,g0,g3,g6,g7,g8,hlt,j1,j2,IG,au,hE,sE,jT,lE,bs,hg,cT,bY,h0,(show qaw 1 2=false from rfl),Fq,aA []];rfl
    refine⟨hlt,_,_,rfl,kD.trans (kE.trans kF),?_⟩;simp only [Sq,qal,qam,g0,g2,g3,g6,g7]
  ·have e:i=l.length:=by omega
   subst e;apply W.run 20
   ·intro M;simp (disch:=first|decide+kernel|omega) only [Cs,qK,qdn,Aq,qal,g7,g8,hlt];rfl
   apply W.q
   ·intro M;simp (disch:=first|decide+kernel|omega) only [qK,qdn,Aq,qal,g2,g3];rfl
   apply W.run 20
   ·intro M;simp (disch:=first|decide+kernel|omega) only [qK,qdn,Aq,qal];rfl
   exact⟨by simp,rfl,_,(by simp only [qdn,Aq,qal]<;>rfl),rfl,kD⟩
 ·simp only [Sq,qal,qam]
noncomputable def vg:Code:=qcv.body.getD .skip
noncomputable def Nl:Code:=sub vg [1,1,1,1,0,1,0,0]
theorem Uw:qcv.body=some (.seq (sub vg [0]) (.seq (sub vg [1,0]) (.seq (sub vg [1,1,0]) (.seq (sub vg [1,1,1,0]) (.seq (.seq (sub vg [1,1,1,1,0,0]) (.block 0 (.loop Nl))) (.seq (sub vg [1,1,1,1,1,0]) (.seq (sub vg [1,1,1,1,1,1,0]) (.seq (sub vg [1,1,1,1,1,1,1,0]) (.seq (sub vg [1,1,1,1,1,1,1,1,0]) (.seq (sub vg [1,1,1,1,1,1,1,1,1,0]) (sub vg [1,1,1,1,1,1,1,1,1,1]))))))))))):=by kernel_rfl
theorem Um {a:Nat}:ct af 179 [(1,.map (some a))]= .ok (.agg ⟨[.slice none 0 0,.map (some a)]⟩):=by kernel_rfl
theorem Ye:eE af 180 (iN 1) (iN 1)= .ok (aa 188 (ja (.slice none 0 0) ⟨false,0,[],0⟩),.mO 1 2):=by kernel_rfl
theorem Xk {a:Nat}:ct af 182 [(0,.agg ⟨[.slice none 0 0,.map (some a)]⟩),(1,.slice (some ⟨b,0,none⟩) 1 2)]= .ok (.agg ⟨[.slice none 0 0,.map (some a),.slice (some ⟨b,0,none⟩) 1 2]⟩):=by kernel_rfl
def S0:qb:=([],⟨false,0,[],0⟩,[])
def rU (l:List aP):List UInt8:=(l.getLast?.map (·.word)).getD []
theorem HJ (l:List aP) (e:aP):rU (l++[e])=e.word:=by simp [rU]
theorem tY (l:List aP) (e:aP):kj (l++[e])=kj l+e.word.length:=by simp [kj]
theorem BQ (l:List aP) (i:Nat):kj (l.take i)≤kj l:=by
 have:=congrArg kj (qcx i l);have e:∀a b:List aP,kj (a++b)=kj a+kj b:=fun a b=>by simp [kj]
 rw [e] at this;omega
theorem P_ {l:List aP} (h:e∈l):e.word.length≤kj l:=by
 obtain⟨a,b,rfl⟩:=List.append_of_mem h;simp [kj];omega
theorem FY (l:List aP) (e:aP):gY [] (l++[e]) S0=u6 (rU l) e (gY [] l S0):=by rw [yM];rfl
theorem X5:qB 0 0 S0:=⟨qao _,fun u hu=>by simp [S0] at hu,qao _,fun s hs=>by simp [S0] at hs,⟨⟨by show 0<18446744073709551616;omega,fun a ha=>by simp [S0] at ha⟩,fun u hu=>by simp [S0] at hu⟩,fun h=>absurd rfl h⟩
theorem Ib {l:List aP} {x:Value} (h:en A l x) (h0:l≠ []) (ha:rk l) (hw:∀e∈l,1≤e.word.length∧e.word.length≤255∧e.weight<4294967296) (hs:kj l<999) (hl:l.length≤255):
 ∃v A',bg af 63 [x] A v A'∧(∃y,v= .tuple ⟨[.agg ⟨[y,.int .u64 (least l:Nat)]⟩,.int .i64 (0:Nat)]⟩∧dJ A' (dO l) y)∧Kp A A':=by
 refine cF (aq Tryz.func63) Uw (by kernel_rfl) ?_;have kA:=Kp.alloc A (aa 115 [.slice none 0 0,.int .u64 (0:Nat)]);have vA:=ay A 115 [.slice none 0 0,.int .u64 (0:Nat)];have nA:(A.alloc (aa 115 [.slice none 0 0,.int .u64 (0:Nat)])).next=A.next+1:=ae _ _
 apply W.q
 ·intro M;simp (disch:=first|decide+kernel|omega) only [vg,qcv,Aq,qal,DQ,au];rfl
 generalize A.alloc (aa 115 [.slice none 0 0,.int .u64 (0:Nat)])=A1 at kA vA nA;obtain⟨v,B,⟨g1,h1⟩,rfl,kB⟩:=H8 (h.kp kA) ha (fun e he=>⟨(hw e he).1,(hw e he).2.1⟩) (by omega);apply W.qG (g1)
 ·intro M hM;simp (disch:=first|decide+kernel|omega) only [vg,qcv,Aq,qal,h1,qau,qav];rfl
 have hEB:=(h.kp kA).kp kB;have vB:=vA.kp kB;have hAB:=kB.1;generalize hk:B.next=k0
 have m1:(B.alloc (.map [] 0)).next=k0+1:=by rw [ae,hk]
 have m2:((B.alloc (.map [] 0)).alloc (aa 188 (ja (.slice none 0 0) ⟨false,0,[],0⟩))).next=k0+2:=by rw [ae,m1]
 have w3:=ay ((B.alloc (.map [] 0)).alloc (aa 188 (ja (.slice none 0 0) ⟨false,0,[],0⟩))) 182 [.slice none 0 0,.map (some k0),.slice (some ⟨k0+1,0,none⟩) 1 2];have w2:=(ay (B.alloc (.map [] 0)) 188 (ja (.slice none 0 0) ⟨false,0,[],0⟩)).kp (Kp.alloc _ (aa 182 [.slice none 0 0,.map (some k0),.slice (some ⟨k0+1,0,none⟩) 1 2]));have kC:=((Kp.alloc B (.map [] 0)).trans (Kp.alloc _ (aa 188 (ja (.slice none 0 0) ⟨false,0,[],0⟩)))).trans (Kp.alloc _ (aa 182 [.slice none 0 0,.map (some k0),.slice (some ⟨k0+1,0,none⟩) 1 2]));have w1:((((B.alloc (.map [] 0)).alloc (aa 188 (ja (.slice none 0 0) ⟨false,0,[],0⟩))).alloc (aa 182 [.slice none 0 0,.map (some k0),.slice (some ⟨k0+1,0,none⟩) 1 2]))).get k0=some (.map [] 0):=by
  rw [aB (by omega),aB (by omega),←hk];exact ax _ _
 have nC:((((B.alloc (.map [] 0)).alloc (aa 188 (ja (.slice none 0 0) ⟨false,0,[],0⟩))).alloc (aa 182 [.slice none 0 0,.map (some k0),.slice (some ⟨k0+1,0,none⟩) 1 2]))).next=k0+3:=by rw [ae,m2]
 rw [m1] at w2;rw [m2] at w3;apply W.q
 ·intro M;simp (disch:=first|decide+kernel|omega) only [vg,qcv,Aq,qal,jc,gB,Eb,hk,m1,m2,Um,Ye,Xk,au];rfl
 generalize (((B.alloc (.map [] 0)).alloc (aa 188 (ja (.slice none 0 0) ⟨false,0,[],0⟩))).alloc (aa 182 [.slice none 0 0,.map (some k0),.slice (some ⟨k0+1,0,none⟩) 1 2]))=C at w1 w2 w3 kC nC;have hC:hZ C (fun z=>z<k0) (k0+2) k0 S0.1 (S0.2.1::S0.2.2).reverse (k0+2) (k0+1) [k0+2]:=
  ⟨.slice none 0 0,.slice (some ⟨k0+1,0,none⟩) 1 2,[],[ja (.slice none 0 0) ⟨false,0,[],0⟩],⟨w3,⟨by omega,w1⟩,az.nil _ _ _ _,rfl,fun _=>rfl⟩,P8 w2.1 w2.2 rfl,⟨rfl,rfl,by simp⟩,fun i s hi=>by simp [S0] at hi,fun i o bx hi hb=>by
   cases i with
   |zero=>
    cases hi;cases hb;exact⟨.slice none 0 0,rfl,⟨az.nil _ _ _ _,fun _=>rfl⟩,by omega⟩
   |succ i=>simp at hb,⟨by omega,by omega,by omega,by omega⟩,fun z hz=>by have:=qaY.1 hz;omega,⟨by omega,by omega⟩,fun z hz=>by omega⟩
 have hEC:=hEB.kp kC;have hlen:=hEC.len;apply W.q
 ·intro M;simp (disch:=first|decide+kernel|omega) only [vg,qcv,Aq,qal];rfl
 apply W.seq;apply W.q
 ·intro M;simp (disch:=first|decide+kernel|omega) only [vg,qcv,Aq,qal,hlen];rfl
 apply W.block;refine W.up l.length (fun i t D=>(∃b bw bs,hZ D (fun z=>z<k0) (k0+2) k0 (gY [] (l.take i) S0).1 ((gY [] (l.take i) S0).2.1::(gY [] (l.take i) S0).2.2).reverse b bw bs)∧qB i (kj (l.take i)) (gY [] (l.take i) S0)∧(C.next≤D.next∧∀z,z<k0→D.get z=C.get z)∧
  Sl t [(2,pV A.next),(6,pV (k0+2)),(7,aj (rU (l.take i))),(26,x),(27,.int .i64 (l.length:Nat)),(28,.int .i64 i)]) ?_ (qaB _) ⟨⟨_,_,_,hC⟩,X5,⟨qao _,fun _ _=>rfl⟩,?_⟩
 ·rintro i t D hi ⟨⟨b,bw,bs,hD⟩,iv,⟨nD,fD⟩,g2,g6,g7,g26,g27,g28,-⟩;have kBD:Kp B D:=⟨by omega,fun z hz=>by rw [fD z (by omega),kC.2 z hz]⟩;by_cases hlt:i<l.length
  ·have he:l[i]?=some l[i]:=qan hlt;have hwe:=hw l[i] (qbg hlt);obtain⟨bx,j1,j2,-⟩:=(hEB.kp kBD).at he;have hsm:=BQ l (i+1);have hlw:(rU (l.take i)).length<1000:=by
    cases hq:(l.take i).getLast? with
    |none=>simp [rU,hq]
    |some u=>
     have:=P_ (qbH (List.mem_of_mem_getLast? hq));simp only [rU,hq,qa5,qbG];omega
   rw [qaC hlt,tY] at hsm;rw [qaC hlt,FY,tY,HJ];generalize l[i]=e at*;have sE:aW af (D.alloc (aa 61 [.string .empty,.int .u32 (0:Nat),.bool false])) 61 (.pointer (some ⟨D.next,0,none⟩)) (.agg ⟨a_ e⟩)= .ok (D.alloc (aa 61 (a_ e))):=bk IG rfl rfl (by simp) (oH e);have kE:=Kp.alloc D (aa 61 (a_ e));have vE:=ay D 61 (a_ e);have nE:(D.alloc (aa 61 (a_ e))).next=D.next+1:=ae _ _
   generalize D.alloc (aa 61 (a_ e))=E at sE kE vE nE;obtain⟨d4,hd4,hd5⟩:=a8 (t:=61) (p:=true) (by kernel_rfl);have lA:ag af E.get 61 (.pointer (some ⟨D.next,0,none⟩))= .ok (.agg ⟨a_ e⟩):=aI hd4 hd5 (l:=a_ e) IG vE.2;obtain⟨v,F,⟨g3,h3⟩,rfl,⟨b1,bw1,TE,hF⟩,nF,fF⟩:=SG (z:=rU (l.take i)) (hD.more kE (qao _) (by omega)) iv (by omega) (by omega) hlw hwe.2.2;have lF:ag af F.get 9 (.pointer (some ⟨D.next,0,none⟩))= .ok (aj e.word):=VB.ld (tb:=af) ⟨by have:=vE.1;omega,vE.2.same (fF _ (.inr rfl))⟩ rfl u9 rfl;have z9:bS af 61= .ok (.agg ⟨[.string .empty,.int .u32 (0:Nat),.bool false]⟩):=by kernel_rfl
   simp only [pV] at g6 h3;apply W.cN (g3) 20
   ·intro M hM;simp (disch:=first|decide+kernel|omega) only [Nl,vg,qcv,Aq,qal,g6,g7,g26,g27,g28,hlt,j1,j2,z9,au,sE,lA,h3,jT,lF,bL];rfl
   refine⟨hlt,_,F,rfl,⟨b1,bw1,TE,hF.less fun _ h=>.inl h⟩,Jr (by omega) iv (by have:=zr hwe.2.2;omega),⟨by omega,fun z hz=>by rw [fF z (.inl hz),kE.2 z (by omega),fD z hz]⟩,?_⟩;simp only [Sq,qal,qam,g2,g6,g26,g27,pV]
  ·have e0:i=l.length:=by omega
   subst e0;rw [qaR] at hD iv;apply W.run 20
   ·intro M;simp (disch:=first|decide+kernel|omega) only [Nl,vg,qcv,Aq,qal,g27,g28,hlt];rfl
   show W af _ _ _;obtain⟨M,o,hM,hLe,hNu⟩:=On (f:=255) h0 ha fun e he=>by have:=(hw e he).2.1;omega
   have hM':dx 0 (gY [] l S0)=(M,o,[]):=hM;have iv2:qB l.length (kj l) (dx 0 (gY [] l S0)):=(jX (d:=0) (by omega) _ _ _ iv).1;obtain⟨v,E,⟨g3,h3⟩,rfl,⟨b1,TE,hE⟩,nE,fE⟩:=By (d:=0) hD iv (by omega) (by omega) (by omega);rw [hM'] at hE iv2;obtain⟨i1,-,i3,i4,⟨i5,-⟩,i6⟩:=iv2;have i6:=i6 (by have:=qa6.2 h0;omega);have i1:o.arcs.length≤l.length:=i1;have i3:M.length+0≤kj l:=i3;have hbl:=hE.Zg;obtain⟨y,w,rows,ws,hR,hS,⟨q3,q3b,-⟩,q4,q5,⟨n1,n2,n3,n4⟩,n5,⟨n6,n7⟩,n8⟩:=hE;obtain⟨r1,⟨r2,r3⟩,r4,r5,r6⟩:=id hR;simp only [qeq,List.reverse_nil,qbv,qaS] at q3 q3b q5;obtain⟨x0,hwx,hx0,hbx⟩:=q5 0 o _ rfl (qan (by omega));have hbm:=qbg (l:=TE) (n:=0) (by omega);generalize TE[0]'(by omega)=bx at hx0 hbx hbm
   have lw:ag af E.get 180 (.pointer (some ⟨k0+2,0+2,none⟩))= .ok w:=r1.ld rfl ph rfl;obtain⟨dd,hd1,hd2⟩:=a8 (t:=188) (p:=true) (by kernel_rfl);have j1:=hS.idx (tb:=af) (st:=180) (i:=0) ph DP (by omega);have j2:=hS.aI (tb:=af) hd1 hd2 DP hwx;have hone:∀v∈ja x0 o,aJ v=true:=by
    intro v hv;simp only [ja,qaK,qbb,or_false] at hv;rcases hv with rfl|rfl|rfl|rfl
    ·exact(az.dk hx0.1).2
    all_goals rfl
   have sF:aW af (E.alloc (aa 188 [.slice none 0 0,.bool false,.int .u64 (0:Nat),.int .u8 (0:Nat)])) 188 (.pointer (some ⟨E.next,0,none⟩)) (.agg ⟨ja x0 o⟩)= .ok (E.alloc (aa 188 (ja x0 o))):=bk DP rfl rfl (by simp) hone;have kF:=Kp.alloc E (aa 188 (ja x0 o));have vF:=ay E 188 (ja x0 o);have nF:(E.alloc (aa 188 (ja x0 o))).next=E.next+1:=ae _ _
   generalize E.alloc (aa 188 (ja x0 o))=F at sF kF vF nF;obtain⟨v,G,⟨g4,h4⟩,rfl,vG,hxG,nG,fG⟩:=FT vF (hx0.1.same kF.1 (kF.2 bx)) i6 (by omega) ⟨i5.1,fun a ha=>(i5.2 a ha).1⟩;have fEG:∀z,z<E.next→(o.arcs≠ []→z≠bx)→G.get z=E.get z:=fun z hz hh=>by rw [fG z (by omega) (by omega) hh,kF.2 z hz]
   have ne0:o.arcs≠ []→o.arcs.map b6≠ []:=fun hh e=>hh (qbk.1 e)
   have hRG:wB G 182 3 (k0+2) k0 b1 [w] (M.map fm) rows y:=⟨⟨by have:=r1.1;omega,r1.2.same (fEG _ r1.1 fun hh=>az.vo hx0.1 r1 (by decide) (ne0 hh))⟩,⟨by omega,by rw [fEG k0 r2 fun hh=>az.gj hx0.1 r3 (ne0 hh)];exact r3⟩,az.j_ r4 r6 (by omega) fun hr hb=>fEG b1 hb fun hh=>re r4 hx0.1 hr (ne0 hh) (by decide),r5,r6⟩;obtain⟨v2,H,⟨g5,h5⟩,rfl,b2,y2,rows2,hRH,hcase,hb2,nH,fH⟩:=uQ (by decide) hRG ⟨bx,hxG⟩ (xG i5) (fun s hs=>(i4 s hs).1) (by simpa [bZ] using (show o.arcs.length≤256 by omega)) (by omega);have vP:dw G 188 E.next (.var 4) (cW x0 (bZ o)):=by
    obtain⟨cc,a1,a2⟩:=vG.2;refine⟨cc,a1,fun j hj=>?_⟩;rw [a2 j (by simp [cW,ja] at hj⊢;omega)];have:ja x0 ⟨o.fin,(bZ o).out,(bZ o).arcs,o.by'⟩=cW x0 (bZ o)++[.int .u8 (o.by'.toNat:Nat)]:=rfl;rw [this,qaJ hj]
   obtain⟨d4,hd4,hd5⟩:=a8 (t:=186) (p:=true) (by kernel_rfl);have lP:ag af G.get 186 (.pointer (some ⟨E.next,0,none⟩))= .ok (.agg ⟨cW x0 (bZ o)⟩):=aI hd4 hd5 (l:=cW x0 (bZ o)) jD vP;have ly:ag af H.get 112 (.pointer (some ⟨k0+2,0,none⟩))= .ok y2:=hRH.1.ld rfl fy rfl;have hb1:rows≠ []→b1<E.next:=fun _=>n6
   have vAE:VB E 115 A.next (.var 2) [.slice none 0 0,.int .u64 (0:Nat)]:=⟨by omega,vB.2.same (by rw [fE A.next (by omega),fD A.next (by omega),kC.2 A.next (by omega)])⟩
   have vAH:VB H 115 A.next (.var 2) [.slice none 0 0,.int .u64 (0:Nat)]:=⟨by omega,vAE.2.same (by rw [fH A.next (by omega) (by omega) (by omega) fun _ e=>n3 (by omega),fEG A.next (by omega) fun _ e=>n5 _ hbm (by omega)])⟩
   have hy2:∃a m c,y2= .slice a m c:=by
    rcases hRH.2.2.1 with⟨rfl,-⟩|⟨_,_,rfl,-⟩<;>exact⟨_,_,_,rfl⟩
   obtain⟨J,sJ,vJ,nJ,fJ⟩:=cY (tb:=af) (t:=115) (l':=[y2,.int .u64 (bU o:Nat)]) (by exact du) vAH.2 rfl (by simp) (by
    intro v hv;simp only [qaK,qbb,or_false] at hv;obtain⟨_,_,_,rfl⟩:=hy2;rcases hv with rfl|rfl<;>rfl)
   obtain⟨d5,hd6,hd7⟩:=a8 (t:=115) (p:=true) (by kernel_rfl);have lJ:ag af J.get 115 (.pointer (some ⟨A.next,0,none⟩))= .ok (.agg ⟨[y2,.int .u64 (bU o:Nat)]⟩):=aI hd6 hd7 (l:=[y2,.int .u64 (bU o:Nat)]) du vJ;have bd:ct af 115 [(0,y2),(1,.int .u64 (bU o:Nat))]= .ok (.agg ⟨[y2,.int .u64 (bU o:Nat)]⟩):=by
    obtain⟨_,_,_,rfl⟩:=hy2;exact Xa
   simp only [pV] at g2 g6 h3 h4;have z214':=Gm;apply W.qG (g3)
   ·intro M hM;simp (disch:=first|decide+kernel|omega) only [vg,qcv,Aq,qal,g6,h3,bL];rfl
   apply W.q
   ·intro M;simp (disch:=first|decide+kernel|omega) only [vg,qcv,Aq,qal,g6,ak,aF,nc,lw,j1,j2,z214',au,sF];rfl
   apply W.qG (g4)
   ·intro M hM;simp (disch:=first|decide+kernel|omega) only [vg,qcv,Aq,qal,h4];rfl
   apply W.qG (g5)
   ·intro M hM;simp (config:={maxSteps:=4000000}) (disch:=first|decide+kernel|omega|simp only [Wq,qal]) only [vg,qcv,Aq,qaq,reduceIte,qal,qam,g6,ak,aF,Hv,nd,lP,h5,Fq,aA []];rfl
   apply W.q
   ·intro M;simp (disch:=first|decide+kernel|omega) only [vg,qcv,Aq,qal,g2,g6,ak,aF,Hv,xz,ly,bd,sJ];rfl
   apply W.run 20
   ·intro M;simp (disch:=first|decide+kernel|omega) only [vg,qcv,Aq,qal];rfl
   have far:∀{l:List cJ} {q:Nat} {x:Value},oc E q l x→q≠bx→iI J l x:=fun {l q x} hq hne=>⟨q,(hq.same (G:=J) (by omega) fun hh hlt=>by rw [fJ q (Ne.symm (az.vo hq.1 vAE (by decide) hh)),fH q (by omega) (Ne.symm (az.vo hq.1 r1 (by decide) hh)) (Ne.symm (az.gj hq.1 r3 hh)) fun hr=>re hq.1 r4 hh hr (by decide),fEG q hlt fun _=>hne]).1⟩
   have old:∀(i:Nat) (s:aZ),M[i]?=some s→∃x,rows[i]?=some (cW x s)∧iI J s.arcs x:=fun i s hs=>by
    obtain⟨x1,q,e1,e2,e3,e4⟩:=q4 i s hs;exact⟨x1,e1,far e2 fun e=>e3 (e▸hbm)⟩
   have hdoc:dO l=(gX M (bZ o)).1:=by unfold dO;rw [←hNu]
   refine⟨by simp,rfl,_,(by simp only [qcv,g2,lJ,Aq,qal]<;>rfl),⟨y2,by rw [hLe],b2,rows2,az.j_ hRH.2.2.1 hRH.2.2.2.2 (by show H.next≤J.next;omega) fun hr _=>fJ b2 (Ne.symm (az.vo hRH.2.2.1 vAH (by decide) hr)),by rw [hdoc,hRH.2.2.2.1,qas],fun i s hs=>?_⟩,by show A.next≤J.next;omega,fun z hz=>?_⟩
   ·show∃x,rows2[i]?=some (cW x s)∧iI J s.arcs x;rw [hdoc] at hs;rcases hcase with⟨rfl,hM2⟩|⟨rfl,hM2⟩
    ·rw [hM2] at hs;exact old i s hs
    ·rw [hM2] at hs;rcases qaZ i M.length with hi|hi
     ·rw [qaJ hi] at hs;obtain⟨x1,e1,e2⟩:=old i s hs;exact⟨x1,by rw [qaJ (qap.1 e1).1];exact e1,e2⟩
     ·rw [qaF hi] at hs;obtain⟨e,rfl⟩:i=M.length∧bZ o=s:=by
       cases hq:i-M.length with
       |zero=>rw [hq] at hs;exact⟨by omega,by simpa using hs⟩
       |succ n=>rw [hq] at hs;simp at hs
      refine⟨x0,by rw [qaF (by rw [r5,qas];exact hi),r5,qas,e,qbq];rfl,bx,(oc.same (A:=G) ⟨hxG,fun e=>hx0.2 (qbk.1 e)⟩ (by omega) fun hh hlt=>?_).1⟩;have hh0:o.arcs.map b6≠ []:=fun e=>hh (by simpa [bZ] using e)
      rw [fJ bx (Ne.symm (az.vo hx0.1 vAE (by decide) hh0)),fH bx hlt (Ne.symm (az.vo hx0.1 r1 (by decide) hh0)) (Ne.symm (az.gj hx0.1 r3 hh0)) fun hr=>re hx0.1 r4 hh0 hr (by decide)]
   ·show J.get z=A.get z;rw [fJ z (by omega),fH z (by omega) (by omega) (by omega) fun _ e=>n3 (by omega),fEG z (by omega) fun _ e=>n5 _ hbm (by omega),fE z (by omega),fD z (by omega),kC.2 z (by omega),kB.2 z (by omega),kA.2 z hz]
 ·simp only [Sq,qal,qam,pV,rU,qcy,List.getLast?_nil,qdG,qey]
theorem Tu:bS af 315= .ok (.agg ⟨ia [] 9 0⟩):=YR
theorem ZL:af.ba 313=some (.array 9 5):=Qq
theorem RD:av af 315 (pw b 0) 0= .ok (pw b 0):=by kernel_rfl
theorem RG:av af 315 (pw b 0) 1= .ok (pw b 9):=by kernel_rfl
variable {i:Nat}
theorem PZ (h:i≤9):c6 af 313 (pw b 0) none (some (.int .i64 i)) none= .ok (.slice (some ⟨b,0,none⟩) i 18):=by
 have e1:bound (some (.int .i64 i)) 9 9= .ok i:=fA h;have e0:bound none 0 i= .ok 0:=rfl;unfold c6;simp only [ZL,e1,R.aw,(show aR af 5= .ok 1 from uU),e0];rfl
noncomputable def tp:Code:=qdH.body.getD .skip
noncomputable def GZ:Code:=sub tp [1,1,0,1,0,0]
theorem Rf:qdH.body=some (.seq (sub tp [0]) (.seq (sub tp [1,0]) (.seq (.seq (sub tp [1,1,0,0]) (.block 0 (.loop GZ))) (.seq (sub tp [1,1,1,0]) (sub tp [1,1,1,1]))))):=by kernel_rfl
theorem PJ {l:List Nat} {x:Value} (h:zH A l x) (hl:l.length<1000) (hw:∀n∈l,n<18446744073709551616):∃v A',bg af 178 [x] A v A'∧v=aj (eR l)∧Kp A A':=by
 refine cF (aq Tryz.func178) Rf (by kernel_rfl) ?_;have hlen:=h.len;apply W.q
 ·intro M;simp (disch:=first|decide+kernel|omega) only [tp,qdH,Aq,qal];rfl
 apply W.q
 ·intro M;simp (disch:=first|decide+kernel|omega) only [tp,qdH,Aq,qal];rfl
 apply W.seq;apply W.q
 ·intro M;simp (disch:=first|decide+kernel|omega) only [tp,qdH,Aq,qal,hlen];rfl
 apply W.block;refine W.up l.length (fun i t D=>Kp A D∧∃y b,oe D 5 b (cZ (eR (l.take i))) y∧A.next≤b∧Sl t [(3,y),(7,x),(8,iN l.length),(9,.int .i64 i)]) ?_ (qaB _) ⟨Kp.refl _,.slice none 0 0,A.next,.inl ⟨rfl,rfl⟩,qao _,?_⟩
 ·rintro i t D hi ⟨kD,y,b,hs,hb,g3,g7,g8,g9,-⟩;by_cases hlt:i<l.length
  ·have he:l[i]?=some l[i]:=qan hlt;have hn:=hw _ (qbg hlt);obtain⟨p,j1,j2⟩:=(h.kp kD).at he;have k1:=fun ih=>Zn (ih:=ih) (A:=D) hn
   have hle:=yb (l.take (i+1)) fun n hn=>hw n (qbH hn)
   rw [qaE,yc he] at hle;have h9:=Jw hn;have hlb:=rY l[i];have hT:=yc he;generalize l[i]=n at*;have sE:aW af (D.alloc (aa 315 (ia [] 9 0))) 315 (pw D.next 0) (.agg ⟨kT n⟩)= .ok (D.alloc (aa 315 (kT n))):=
    have t0:=pN (w:=((jY n:Nat):Int)) (show(cK n).length+(9-jY n)=9 by omega)
    bk (by rw [show(kT n).length=10 from t0.1];kernel_rfl) rfl (by rw [show(kT n).length=10 from t0.1];rfl) (by intro e;cases e) t0.2
   have kE:=Kp.alloc D (aa 315 (kT n));have vE:=ay D 315 (kT n);generalize hE:D.alloc (aa 315 (kT n))=E at sE kE vE;have l3:ag af E.get 3 (pw D.next 9)= .ok (iN (jY n)):=vE.ld (OE hn) u3 rfl;have vP:dw E 315 D.next (.var (kT n).length) (cZ (cK n)):=by
    obtain⟨c,q1,q2⟩:=vE.2;refine⟨c,q1,fun j hj=>?_⟩;rw [q2 j (by unfold kT ia;simp only [qar];omega)];unfold kT ia;rw [qbh,qaJ hj]
   have hf:eN E.get 1 (jY n) (.slice (some ⟨D.next,0,none⟩) (jY n) 18)= .ok (cZ (cK n)):=by
    have:=gK vP;rw [cI,hlb] at this;exact this
   obtain⟨ti,t1,t2⟩:=Ti;obtain⟨y',F,b',e1,e2,e3,e4,e5⟩:=oe.kY (tb:=af) (st:=74) (xt:=74) (hs.same kE.1 (fun hb=>kE.2 b hb)) z_ z_ rfl Tn t1 (by omega) (by omega) (by rw [cI];rw [qar] at hle;omega) (y:=.slice (some ⟨D.next,0,none⟩) (jY n) 18) rfl hf (by rw [cI,hlb]) (fun v hv=>by
    obtain⟨_,-,rfl⟩:=qa3.1 hv;rfl)
   rw [show cZ (eR (l.take i))++cZ (cK n)=cZ (eR (l.take (i+1))) by rw [hT];unfold cZ;rw [qbe]] at e2;have kF:Kp A F:=⟨by have:=kD.1;have:=kE.1;omega,fun z hz=>by
    have:=kD.1;rw [e5 z (fun e=>by omega) (by have:=kE.1;omega),kE.2 z (by omega),kD.2 z hz]⟩
   apply W.run 20
   ·intro M;simp (disch:=first|decide+kernel|omega) only [GZ,tp,qdH,Aq,qal,g3,g7,g8,g9,hlt,j1,j2,k1,Tu,au,hE,sE,RD,RG,l3,PZ,h9,e1];rfl
   refine⟨hlt,_,F,rfl,kF,y',b',e2,by have:=kD.1;have:=kE.1;omega,?_⟩;simp only [Sq,qal,qam,g7,g8]
  ·have e:i=l.length:=by omega
   subst e;rw [qaR] at hs;have cs:df af D.get 74 9 y= .ok (aj (eR l)):=sQ hs;apply W.run 20
   ·intro M;simp (disch:=first|decide+kernel|omega) only [GZ,tp,qdH,Aq,qal,g8,g9,hlt];rfl
   apply W.q
   ·intro M;simp (disch:=first|decide+kernel|omega) only [tp,qdH,Aq,qal,g3,cs,Sc];rfl
   apply W.run 20
   ·intro M;simp (disch:=first|decide+kernel|omega) only [tp,qdH,Aq,qal];rfl
   exact⟨by simp,rfl,_,(by simp only [qdH,Aq,qal]<;>rfl),rfl,kD⟩
 ·simp only [Sq,qal,qam]
noncomputable def wW:Code:=qdY.body.getD .skip
noncomputable def GY:Code:=sub wW [1,0,1,0,0]
theorem Re:qdY.body=some (.seq (sub wW [0]) (.seq (.seq (sub wW [1,0,0]) (.block 0 (.loop GY))) (.seq (sub wW [1,1,0]) (sub wW [1,1,1])))):=by kernel_rfl
variable {y:Value}
theorem LU (h:dJ A M y) (hl:M.length<1000000) (hL:Lay M):∃v A',bg af 177 [.agg ⟨[y,.int .u64 k]⟩] A v A'∧(∃n:Nat,v= .tuple ⟨[iN M.length,.int .i64 n]⟩)∧Kp A A':=by
 refine cF (aq Tryz.func177) Re (by kernel_rfl) ?_;have kB:=Kp.alloc A (aa 115 [y,.int .u64 k]);have vB:=ay A 115 [y,.int .u64 k];have hy:=h.self;apply W.q
 ·intro M;simp (disch:=first|decide+kernel|omega) only [wW,qdY,Aq,qal,au];rfl
 have hB:=h.kp kB;generalize A.alloc (aa 115 [y,.int .u64 k])=B at kB vB hB;have ly:∀D,Kp B D→ag af D.get 112 (pw A.next 0)= .ok y:=fun D hD=>(vB.kp hD).ld rfl fy rfl
 have lB:=ly B (Kp.refl _);have bX:=hB.len;apply W.seq;apply W.q
 ·intro M;simp (disch:=first|decide+kernel|omega) only [wW,qdY,Aq,qal,ed,lB,bX];rfl
 apply W.block;refine W.up M.length (fun i t D=>Kp B D∧∃n,n≤256*i∧Sl t [(1,pw A.next 0),(3,iN n),(7,y),(8,iN M.length),(9,.int .i64 i)]) ?_ (qaB _) ⟨Kp.refl _,0,qao _,?_⟩
 ·rintro i t D hi ⟨kD,n,hn,g1,g3,g7,g8,g9,-⟩;have lD:=ly D kD;have hD:=hB.kp kD;have lenD:=hD.len;by_cases hlt:i<M.length
  ·have hMi:M[i]?=some M[i]:=qan hlt;obtain⟨l1,-⟩:=hL i _ hMi;obtain⟨x,p,j1,j2,hx,-⟩:=hD.at hMi;generalize M[i]=s at*;have sE:=BJ hx;have kE:=Kp.alloc D (aa 186 (cW x s));have vE:=ay D 186 (cW x s);generalize D.alloc (aa 186 (cW x s))=E at sE kE vE;have a0:ag af E.get 184 (pw D.next 0)= .ok x:=vE.ld rfl mi rfl;have lx:=(hx.kp kE).len;have ad:aM .add .i64 ((n:Nat):Int) ((s.arcs.length:Nat):Int)= .ok (iN (n+s.arcs.length)):=bf (aV (by omega));apply W.run 20
   ·intro M;simp (disch:=first|decide+kernel|omega) only [GY,wW,qdY,Aq,qal,g3,g7,g8,g9,hlt,j1,j2,jE,au,sE,fk,a0,lx,ad];rfl
   refine⟨hlt,_,_,rfl,kD.trans kE,n+s.arcs.length,by omega,?_⟩;simp only [Sq,qal,qam,g1,g7,g8]
  ·have e:i=M.length:=by omega
   subst e;apply W.run 20
   ·intro M;simp (disch:=first|decide+kernel|omega) only [GY,wW,qdY,Aq,qal,g8,g9,hlt];rfl
   apply W.q
   ·intro M;simp (disch:=first|decide+kernel|omega) only [wW,qdY,Aq,qal,g1,g3,ed,lD,lenD];rfl
   apply W.run 20
   ·intro M;simp (disch:=first|decide+kernel|omega) only [wW,qdY,Aq,qal];rfl
   exact⟨by simp,rfl,_,(by simp only [qdY,Aq,qal]<;>rfl),⟨n,rfl⟩,kB.trans kD⟩
 ·simp only [Sq,qal,qam]
theorem MY (a:cJ):∀v∈b6 a,aJ v=true:=by
 intro v hv;simp only [b6,qaK,qbb,or_false] at hv;rcases hv with rfl|rfl|rfl<;>rfl
theorem P3 {D:Mem} (a:cJ):aW af (D.alloc (aa 246 [bN 0,uN 0,iN 0])) 246 (pw D.next 0) (.agg ⟨b6 a⟩)= .ok (D.alloc (aa 246 (b6 a))):=bk MB rfl rfl (by simp) (MY a)
theorem Gl:bS af 246= .ok (.agg ⟨[bN 0,uN 0,iN 0]⟩):=by kernel_rfl
noncomputable def jv:Code:=qbO.body.getD .skip
noncomputable def ez:Code:=sub jv [1,1,1,0,1,0,0]
noncomputable def GP:Code:=sub ez [1,1,0,0,1,1,1,0,0]
theorem Q0:qbO.body=some (.seq (sub jv [0]) (.seq (sub jv [1,0]) (.seq (sub jv [1,1,0]) (.seq (.seq (sub jv [1,1,1,0,0]) (.block 0 (.loop ez))) (.seq (sub jv [1,1,1,1,0]) (sub jv [1,1,1,1,1])))))):=by kernel_rfl
theorem Ao:ez=(.seq (sub ez [0]) (.seq (sub ez [1,0]) (.seq (.block 1 (.seq (sub ez [1,1,0,0,0]) (.seq (sub ez [1,1,0,0,1,0]) (.seq (sub ez [1,1,0,0,1,1,0]) (.block 2 (.loop GP)))))) (sub ez [1,1,1])))):=by kernel_rfl
theorem PB (h:dJ A M y) (hM:M≠ []) (hn:n≤100000) (hl:M.length<1000000) (hL:Lay M):∃v A',bg af 120 [.int .i64 n,.agg ⟨[y,.int .u64 k]⟩] A v A'∧v= .bool true∧Kp A A':=by
 refine cF (aq Tryz.func120) Q0 (by kernel_rfl) ?_;have kB:=Kp.alloc A (aa 115 [y,.int .u64 k]);have vB:=ay A 115 [y,.int .u64 k];have hy:=h.self;apply W.q
 ·intro M;simp (disch:=first|decide+kernel|omega) only [jv,qbO,Aq,qal,au];rfl
 have hB:=h.kp kB;generalize A.alloc (aa 115 [y,.int .u64 k])=B at kB vB hB;obtain⟨d,hd1,hd2⟩:=a8 (t:=115) (p:=true) (by kernel_rfl);have lA:ag af B.get 115 (.pointer (some ⟨A.next,0,none⟩))= .ok (.agg ⟨[y,.int .u64 k]⟩):=aI hd1 hd2 du vB.2;obtain⟨v,C,⟨g,hg⟩,⟨na,rfl⟩,kC⟩:=LU (k:=k) hB hl hL;have hC:=hB.kp kC;have ly:∀D,Kp C D→ag af D.get 112 (.pointer (some ⟨A.next,0,none⟩))= .ok y:=fun D hD=>(vB.kp (kC.trans hD)).ld rfl fy rfl
 have lC:=ly C (Kp.refl _);have lenC:=hC.len;have hM1:¬M.length=0:=fun e=>hM (qaP.1 e)
 have hn1:¬100000<n:=by omega
 apply W.qG (g)
 ·intro M hM;simp (disch:=first|decide+kernel|omega) only [jv,qbO,Aq,qal,lA,hg,qau,qav];rfl
 apply W.q
 ·intro M;simp (config:={maxSteps:=4000000}) (disch:=first|decide+kernel|omega|simp only [Wq,qal]) only [jv,qbO,Aq,qaq,reduceIte,qal,qam,hM1,hn1,cT,bY];rfl
 apply W.seq;apply W.q
 ·intro M;simp (disch:=first|decide+kernel|omega) only [jv,qbO,Aq,qal,ed,lC,lenC];rfl
 apply W.block;refine W.up M.length (fun i t D=>Kp C D∧Sl t [(27,y),(28,.int .i64 (M.length:Nat)),(29,.int .i64 i)]) ?_ (qaB _) ⟨Kp.refl _,?_⟩
 ·rintro i t D hi ⟨kD,g27,g28,g29,-⟩;have hD:=hC.kp kD;by_cases hlt:i<M.length
  ·have hMi:M[i]?=some M[i]:=qan hlt;obtain⟨l1,l2,l3,l4⟩:=hL i _ hMi;obtain⟨x,p,j1,j2,hx,-⟩:=hD.at hMi;generalize M[i]=s at*;have sE:=BJ hx;have kE:=Kp.alloc D (aa 186 (cW x s));have vE:=ay D 186 (cW x s);generalize D.alloc (aa 186 (cW x s))=E at sE kE vE;have a0:ag af E.get 184 (.pointer (some ⟨D.next,0,none⟩))= .ok x:=vE.ld rfl mi rfl;have a1:ag af E.get 4 (.pointer (some ⟨D.next,0+1,none⟩))= .ok (.bool s.fin):=vE.ld rfl u4 rfl;have a2:ag af E.get 113 (.pointer (some ⟨D.next,0+2,none⟩))= .ok (.int .u64 s.out):=vE.ld rfl fp rfl;have hxE:=hx.kp kE;have lx:=hxE.len;have hl1:¬256<s.arcs.length:=by omega
   rw [Ao];apply W.q
   ·intro M;simp (disch:=first|decide+kernel|omega) only [ez,jv,qbO,Aq,qal,g28,g29,hlt];rfl
   apply W.q
   ·intro M;simp (disch:=first|decide+kernel|omega) only [ez,jv,qbO,Aq,qal];rfl
   apply W.seq;apply W.block;apply W.q
   ·intro M;simp (disch:=first|decide+kernel|omega) only [ez,jv,qbO,Aq,qal,g27,g29,j1,j2,jE,au,sE];rfl
   apply W.seq;refine W.to (n:=66) (fun t D'=>D'=E∧Sl t [(7,.int .i64 i),(8,.pointer (some ⟨D.next,0,none⟩)),(27,y),(28,.int .i64 (M.length:Nat)),(29,.int .i64 i)]) ?_ ?_
   ·cases hf:s.fin with
    |true=>
     rw [hf] at a1;apply W.run 20
     ·intro M;simp (config:={maxSteps:=4000000}) (disch:=first|decide+kernel|omega|simp only [Wq,qal]) only [ez,jv,qbO,Aq,qaq,reduceIte,qal,qam,fk,ee,a0,a1,lx,hl1,cT,bY];rfl
     refine⟨rfl,_,_,rfl,rfl,?_⟩;simp only [Sq,qal,qam,g27,g28,g29]
    |false=>
     rw [hf] at a1;have ho:=l2 hf;rw [ho] at a2;apply W.run 20
     ·intro M;simp (config:={maxSteps:=4000000}) (disch:=first|decide+kernel|omega|simp only [Wq,qal]) only [ez,jv,qbO,Aq,qaq,reduceIte,qal,qam,fk,ee,m_,a0,a1,a2,lx,hl1,cT,bY];rfl
     refine⟨rfl,_,_,rfl,rfl,?_⟩;simp only [Sq,qal,qam,g27,g28,g29]
   ·rintro t D' ⟨rfl,g7,g8,g27,g28,g29,-⟩;apply W.seq;apply W.run 20
    ·intro M;simp (disch:=first|decide+kernel|omega) only [ez,jv,qbO,Aq,qal,g8,fk,a0,lx];rfl
    apply W.block;refine W.up s.arcs.length (fun j t D''=>Kp D' D''∧Sl t [(7,.int .i64 i),(27,y),(28,.int .i64 (M.length:Nat)),(29,.int .i64 i),(49,x),(50,.int .i64 (s.arcs.length:Nat)),(51,.int .i64 j)]) ?_ (qaB _) ⟨Kp.refl _,?_⟩
    ·rintro j t F hj ⟨kF,g7,g27,g28,g29,g49,g50,g51,-⟩;by_cases hlt2:j<s.arcs.length
     ·have hsj:s.arcs[j]?=some s.arcs[j]:=qan hlt2;obtain⟨q,q1,q2⟩:=(hxE.kp kF).at hsj;have ht:=(l4 _ (qbg hlt2)).1;have ht2:¬i≤s.arcs[j].to:=by omega
      have sG:=P3 (D:=F) s.arcs[j];have kG:=Kp.alloc F (aa 246 (b6 s.arcs[j]));have vG:=ay F 246 (b6 s.arcs[j]);generalize F.alloc (aa 246 (b6 s.arcs[j]))=G at sG kG vG;have b2:ag af G.get 3 (.pointer (some ⟨F.next,0+2,none⟩))= .ok (.int .i64 (s.arcs[j].to:Int)):=vG.ld rfl u3 rfl;apply W.run 20
      ·intro M;simp (config:={maxSteps:=4000000}) (disch:=first|decide+kernel|omega|simp only [Wq,qal]) only [GP,ez,jv,qbO,Aq,qaq,reduceIte,qal,qam,g7,g49,g50,g51,hlt2,q1,q2,Gl,au,sG,nb,b2,ef,cL,ht2];rfl
      refine⟨hlt2,_,_,rfl,kF.trans kG,?_⟩;simp only [Sq,qal,qam,g7,g27,g28,g29,g49,g50]
     ·have e:j=s.arcs.length:=by omega
      subst e;apply W.run 20
      ·intro M;simp (disch:=first|decide+kernel|omega) only [GP,ez,jv,qbO,Aq,qal,g50,g51,hlt2];rfl
      show W af (sub ez [1,1,1]) _ _;apply W.run 20
      ·intro M;simp (disch:=first|decide+kernel|omega) only [ez,jv,qbO,Aq,qal,g29];rfl
      refine⟨hlt,_,_,rfl,kD.trans (kE.trans kF),?_⟩;simp only [Sq,qal,qam,g27,g28]
    ·simp only [Sq,qal,qam,g7,g27,g28,g29]
  ·have e:i=M.length:=by omega
   subst e;rw [Ao];apply W.q
   ·intro M;simp (disch:=first|decide+kernel|omega) only [ez,jv,qbO,Aq,qal,g28,g29,hlt];rfl
   apply W.seq;apply W.run 20
   ·intro M;simp (disch:=first|decide+kernel|omega) only [ez,jv,qbO,Aq,qal];rfl
   apply W.seq;apply W.run 20
   ·intro M;simp (disch:=first|decide+kernel|omega) only [jv,qbO,Aq,qal];rfl
   apply W.run 20
   ·intro M;simp (disch:=first|decide+kernel|omega) only [jv,qbO,Aq,qal];rfl
   exact⟨by simp,rfl,_,(by simp only [qbO,Aq,qal]<;>rfl),rfl,kB.trans (kC.trans kD)⟩
 ·simp only [Sq,qal,qam]
def Wr (A:Mem) (p b:Nat) (w:List UInt8) (y:Value) (k:Nat):Prop:=∃x,VB A 195 p (.var 3) [x,y,.int .u64 k]∧oA A 5 b (cZ w) x∧b≠p∧(w≠ []→b<A.next)
theorem CQ:av af 193 (pw b o) 0= .ok (pw b o):=by kernel_rfl
theorem qT:av af 195 (pw b o) 0= .ok (pw b o):=by kernel_rfl
theorem UQ:av af 195 (pw b o) 1= .ok (pw b (o+1)):=by kernel_rfl
variable {l:List Value}
theorem oA.cG {e:TypeId} {x:Value} (h:oA A e b l x):Am.cG 100 x x=true:=by
 rcases h with⟨rfl,-⟩|⟨-,rfl,-⟩
 ·rfl
 ·exact mN _ _ _ _
theorem Wr.more {cs:List UInt8} {z:Value} {xt:TypeId} {xd:TypeDesc} (h:Wr A p b w y k) (kB:Kp A B) (hxt:af.ba xt=some xd) (hxd:eP xd=false) (h0:0<cs.length) (hl:w.length+cs.length<16000000) (hz:gP z= .ok cs.length) (hf:eN B.get 1 cs.length z= .ok (cZ cs)):
 ∃x x' C D,(∀E:Mem,A.next≤E.next→E.get p=A.get p→ag af E.get 74 (pw p 0)= .ok x)∧Am.cG 100 x x=true∧bj af B 74 xt x z= .ok (x',C)∧aW af C 74 (pw p 0) x'= .ok D∧Wr D p B.next (w++cs) y k∧Grow p b A B.next D:=by
 obtain⟨x,hV,hS,hbp,hbn⟩:=h;obtain⟨ti,t1,t2⟩:=Ti;obtain⟨x',C,e1,e2,e3,e4⟩:=(hS.same kB.1 (kB.2 b)).kY (tb:=af) (st:=74) (nl:=cZ cs) z_ hxt hxd Tn t1 (by omega) (by omega) (by rw [cI];omega) h0 hz hf (cI cs) (fun v hv=>by
  obtain⟨_,-,rfl⟩:=qa3.1 hv;rfl)
 have hp:=hV.1;have hn:=kB.1;obtain⟨D,sD,vD,nD,fD⟩:=aL (tb:=af) (t:=74) (o:=0) (v:=x') TH ((hV.kp kB).2.same (e4 p (Ne.symm hbp) (by omega))) (by simp) e2.mO.cells e2.mO.one;refine⟨x,x',C,D,fun E hn hE=>VB.ld (tb:=af) ⟨qaD hp hn,hV.2.same hE⟩ rfl z_ rfl,hS.cG,e1,sD,⟨x',⟨by omega,vD⟩,?_,by omega,fun _=>by omega⟩,⟨by omega,by omega,fun z hz h1 h2=>by rw [fD z h1,e4 z h2 (by omega),kB.2 z hz]⟩⟩;rw [wP];exact e2.same (by omega) fun _=>fD _ (by omega)
theorem PN {x:Value} {l:List Nat} (h:Wr A p b w y k) (hN:zH A l x) (hl:l.length<1000) (h0:l≠ []) (hw:∀n∈l,n<18446744073709551616) (hwl:w.length<1000000):
 ∃v D b',bg af 121 [pw p 0,x] A v D∧v=bL∧Wr D p b' (w++eR l) y k∧Grow p b A b' D:=by
 obtain⟨v,B,⟨g,hg⟩,rfl,kB⟩:=PJ hN hl hw;have hp:p<A.next:=by obtain⟨_,hV,-⟩:=h;exact hV.1
 have hle:=yb l hw;have hpos:0<(eR l).length:=by
  obtain⟨n,r,rfl⟩:=qdg h0;have:=x_ n;unfold eR;rw [qbl,qar];omega
 obtain⟨z,z',C,D,e1,e2,e3,e4,e5,e6⟩:=h.more (z:=aj (eR l)) kB u9 rfl hpos (by omega) (TD _) GF;have l1:=e1 A (qao _) rfl;have l2:=e1 B kB.1 (kB.2 p hp);refine⟨bL,D,_,?_,rfl,e5,e6⟩;refine aT (g) 60 (aq Tryz.func121) (by kernel_rfl) fun M hM=>?_
 simp (config:={maxSteps:=4000000}) (disch:=first|decide+kernel|omega|simp only [Wq,qal]) only [Tryz.f121,Aq,qaq,reduceIte,qal,qam,ak,aF,CQ,l1,l2,hg,e2,e3,e4,bL,Fq,aA [(4,6)]]<;>rfl
theorem OV (A:Mem) (l:List Nat):zH (A.alloc (aa 113 (l.map fun n:Nat=>Value.int .u64 n))) l (.slice (some ⟨A.next,0,none⟩) l.length (2*l.length)):=by
 refine⟨A.next,.inr ⟨.var l.length,2*l.length,by rw [qas],by rw [ae];omega,?_,fun c hc=>by obtain⟨_,-,rfl⟩:=qa3.1 hc;rfl,.inl (by rw [qas])⟩⟩;have:=g_ A 113 (l.map fun n:Nat=>Value.int .u64 n);rw [qas] at this;have e:∀l:List Nat,(l.map OU).flatten=l.map fun n:Nat=>Value.int .u64 n:=fun l=>by
  induction l with
  |nil=>rfl
  |cons n l ih=>rw [qbx,qb3,ih];rfl
 rw [e];exact this
theorem Wr.kp (h:Wr A p b w y k) (kB:Kp A B):Wr B p b w y k:=by
 obtain⟨x,h1,h2,h3,h4⟩:=h;exact⟨x,h1.kp kB,h2.same kB.1 (kB.2 b),h3,fun h=>qaD (h4 h) kB.1⟩
theorem mL (l:List Nat) (h:Wr A p b w y k) (hl:l.length<1000) (h0:l≠ []) (hw:∀n∈l,n<18446744073709551616) (hwl:w.length<1000000):
 ∃D b',bg af 121 [pw p 0,.slice (some ⟨A.next,0,none⟩) l.length (2*l.length)] (A.alloc (aa 113 (l.map fun n:Nat=>Value.int .u64 n))) bL D∧Wr D p b' (w++eR l) y k∧Grow p b A b' D:=by
 have kB:=Kp.alloc A (aa 113 (l.map fun n:Nat=>Value.int .u64 n));obtain⟨v,D,b',h1,rfl,h3,h4⟩:=PN (h.kp kB) (OV A l) hl h0 hw hwl;exact⟨D,b',h1,h3,⟨qaV kB.1 h4.n,qaV kB.1 h4.r,fun z hz e1 e2=>by rw [h4.g z (qaD hz kB.1) e1 e2,kB.2 z hz]⟩⟩
variable {b':Nat}
theorem Grow.kp {A0:Mem} (h:Grow p b A b' B) (k:Kp A0 A) (hp:A0.next≤p) (hb:A0.next≤b):Kp A0 B∧A0.next≤b':=⟨⟨qaV k.1 h.n,fun z hz=>by rw [h.g z (qaD hz k.1) (by omega) (by omega),k.2 z hz]⟩,qaV k.1 h.r⟩
theorem IP {a:Int}:a6 af 251 1 [(0,.int .u64 a)]= .ok (aa 113 [.int .u64 a],.mO 1 2):=by kernel_rfl
theorem Ch {a b:Int}:a6 af 251 2 [(0,.int .u64 a),(1,.int .u64 b)]= .ok (aa 113 [.int .u64 a,.int .u64 b],.mO 2 4):=by kernel_rfl
theorem dJ.Z4 {s:aZ} (h:dJ A M y) (hi:M[i]?=some s):
 ∃x p,aU af 112 y (.int .i64 i)= .ok p∧∀A',Kp A A'→ag af A'.get 186 p= .ok (.agg ⟨cW x s⟩)∧iI A' s.arcs x:=by
 obtain⟨b,rows,h1,h2,h3⟩:=h;obtain⟨x,e1,e2⟩:=h3 i s hi;obtain⟨d,hd1,hd2⟩:=a8 (t:=186) (p:=true) (by kernel_rfl);exact⟨x,_,az.idx h1 fy jD (qap.1 e1).1,fun A' k=>⟨az.aI (h1.same k.1 (k.2 b)) hd1 hd2 jD e1,e2.kp k⟩⟩
noncomputable def rH:Code:=qdo.body.getD .skip
noncomputable def GQ:Code:=sub rH [1,1,1,1,0,0]
theorem Q1:qdo.body=some (.seq (sub rH [0]) (.seq (sub rH [1,0]) (.seq (.seq (sub rH [1,1,0,0]) (sub rH [1,1,0,1])) (.seq (sub rH [1,1,1,0]) (.block 0 (.loop GQ)))))):=by kernel_rfl
theorem Il {A0:Mem} {s:aZ} (h0:dJ A0 M y) (k0:Kp A0 A) (hp:A0.next≤p) (hb:A0.next≤b) (h:Wr A p b w y k) (hi:M[i]?=some s) (hL:Lay M) (hl:M.length<1000000) (hw0:w≠ []) (hwl:(w++Gs i s).length<900000):
 ∃v D,bg af 122 [.pointer (some ⟨p,0,none⟩),.int .i64 i] A v D∧v=bL∧∃b',Wr D p b' (w++Gs i s) y k∧Grow p b A b' D:=by
 obtain⟨l1,l2,l3,l4⟩:=hL i s hi;have hil:i<M.length:=(qap.1 hi).1;have hpA:p<A.next:=by obtain⟨_,hV,-⟩:=h;exact hV.1
 have hbA:b<A.next:=by obtain⟨_,-,-,-,h⟩:=h;exact h hw0
 have ly:ag af A.get 112 (.pointer (some ⟨p,0+1,none⟩))= .ok y:=by obtain⟨_,hV,-⟩:=h;exact hV.ld rfl fy rfl
 obtain⟨x,q,j1,j⟩:=h0.Z4 hi;obtain⟨j2,hx⟩:=j A k0;refine cF (aq Tryz.func122) Q1 (by kernel_rfl) ?_;have sB:=BJ hx;have kB:=Kp.alloc A (aa 186 (cW x s));have vB:=ay A 186 (cW x s);have m1:aM .mul .i64 ((2:Nat):Int) ((s.arcs.length:Nat):Int)= .ok (.int .i64 (2*s.arcs.length:Nat)):=j5 (aV (by omega));have c1:=bM (tb:=af) (s:=3) (d:=113) (k:=.i64) (n:=2*s.arcs.length) (by rw [u3];rfl) fp (cV (by omega));apply W.q
 ·intro M;simp (disch:=first|decide+kernel|omega) only [rH,qdo,Aq,qal,ak,aF,UQ,ed,ly,j1,j2,jE,au,sB];rfl
 generalize A.alloc (aa 186 (cW x s))=B at sB kB vB;have h1:=h.kp kB;have kAB:=k0.trans kB;have a0:∀E:Mem,B.next≤E.next→E.get A.next=B.get A.next→ag af E.get 184 (.pointer (some ⟨A.next,0,none⟩))= .ok x:=fun E hn hE=>VB.ld (tb:=af) ⟨qaD vB.1 hn,vB.2.same hE⟩ rfl mi rfl
 have lB:=a0 B (qao _) rfl;have a1:ag af B.get 4 (.pointer (some ⟨A.next,0+1,none⟩))= .ok (.bool s.fin):=vB.ld rfl u4 rfl;have a2:ag af B.get 113 (.pointer (some ⟨A.next,0+2,none⟩))= .ok (.int .u64 s.out):=vB.ld rfl fp rfl;have lx:=(hx.kp kB).len;have hw1:w.length<900000:=by rw [qar] at hwl;omega
 apply W.q
 ·intro M;simp (disch:=first|decide+kernel|omega) only [rH,qdo,Aq,qal,fk,lB,lx,m1,c1];rfl
 apply W.seq;refine W.to (n:=71) (fun t D=>∃b',Wr D p b' (w++lu s) y k∧Grow p b B b' D∧Sl t [(0,.pointer (some ⟨p,0,none⟩)),(1,.int .i64 i),(4,.pointer (some ⟨A.next,0,none⟩))]) ?_ ?_
 ·apply W.seq;apply W.run 20
  ·intro M;simp (disch:=first|decide+kernel|omega) only [rH,qdo,Aq,qal,ee,a1];rfl
  show W af _ _ _;cases hf:s.fin with
  |true=>
   have a3:aM .add .u64 ((2*s.arcs.length:Nat):Int) ((1:Nat):Int)= .ok (.int .u64 (2*s.arcs.length+1:Nat)):=bf (cV (by omega));obtain⟨D,b',⟨g,hg⟩,hD,hG⟩:=mL [2*s.arcs.length+1,s.out] h1 (by simp) (by simp) (by simp;omega) (by omega);simp only [qbx,qcp,qaA,qaT,qam,qeu] at hg;apply W.cN (g) 20
   ·intro M hM;simp (config:={maxSteps:=4000000}) (disch:=first|decide+kernel|omega|simp only [Wq,qal]) only [rH,qdo,Aq,qaq,reduceIte,qal,qam,ak,aF,qT,m_,a2,a3,Ch,hg,Fq,aA []];rfl
   refine⟨rfl,_,D,rfl,b',?_,hG,?_⟩
   ·have:lu s=eR [2*s.arcs.length+1,s.out]:=by unfold lu eR;rw [if_pos hf];simp
    rw [this];exact hD
   ·simp only [Sq,qal,qam]
  |false=>
   obtain⟨D,b',⟨g,hg⟩,hD,hG⟩:=mL [2*s.arcs.length] h1 (by simp) (by simp) (by simp;omega) (by omega);simp only [qbx,qcp,qaA,qaT,qam,qeu] at hg;apply W.cN (g) 20
   ·intro M hM;simp (disch:=first|decide+kernel|omega) only [rH,qdo,Aq,qal,ak,aF,qT,IP,hg];rfl
   refine⟨rfl,_,D,rfl,b',?_,hG,?_⟩
   ·have:lu s=eR [2*s.arcs.length]:=by unfold lu eR;rw [if_neg (by simp [hf])];simp
    rw [this];exact hD
   ·simp only [Sq,qal,qam]
 ·rintro t D ⟨b1,hW1,hG1,g0,g1,g4,-⟩;obtain⟨kD,hb1⟩:=hG1.kp kAB hp hb;have lD:=a0 D hG1.n (hG1.g _ vB.1 (by omega) (by omega));have lxD:=(j D kD).2.len;apply W.q
  ·intro M;simp (disch:=first|decide+kernel|omega) only [rH,qdo,Aq,qal,g4,fk,lD,lxD];rfl
  apply W.block;refine W.up s.arcs.length (fun e t F=>∃b2,Wr F p b2 (w++lu s++(s.arcs.take e).flatMap (ky i)) y k∧Grow p b A b2 F∧Sl t [(0,.pointer (some ⟨p,0,none⟩)),(1,.int .i64 i),(39,x),(40,.int .i64 (s.arcs.length:Nat)),(41,.int .i64 e)]) ?_ (qaB _) ⟨b1,by simpa using hW1,⟨qaV kB.1 hG1.n,qaV kB.1 hG1.r,fun z hz e1 e2=>by rw [hG1.g z (qaD hz kB.1) e1 e2,kB.2 z hz]⟩,?_⟩
  ·rintro e t F he ⟨b2,hW2,hG2,g0,g1,g39,g40,g41,-⟩;by_cases hlt:e<s.arcs.length
   ·have hse:s.arcs[e]?=some s.arcs[e]:=qan hlt;obtain⟨kF,hb2⟩:=hG2.kp k0 hp hb;obtain⟨p2,j3,j4⟩:=(j F kF).2.at hse;obtain⟨ht,ho⟩:=l4 _ (qbg hlt);have hT:=K6 (i:=i) hse;have hfl:=EL (i:=i) s.arcs (e+1);rw [hT] at hfl;generalize hz:(s.arcs.take e).flatMap (ky i)=z at*;have hle1:(w++lu s++(z++ky i s.arcs[e])).length<900000:=by
     unfold Gs at hwl;simp only [qar] at hwl hfl⊢;omega
    generalize s.arcs[e]=a at*;simp only [qar] at hle1;have sG:=P3 (D:=F) a;have kG:=Kp.alloc F (aa 246 (b6 a));have vG:=ay F 246 (b6 a);generalize hGG:F.alloc (aa 246 (b6 a))=G at sG kG vG;have hWG:=hW2.kp kG;have hpF:p<F.next:=by obtain⟨_,hV,-⟩:=hW2;exact hV.1
    have kH:=Kp.alloc G (aa 5 [.int .u8 (a.byte.toNat:Nat)]);have vH:=ay G 5 [.int .u8 (a.byte.toNat:Nat)];have c0:ag af G.get 5 (.pointer (some ⟨F.next,0,none⟩))= .ok (.int .u8 (a.byte.toNat:Nat)):=vG.ld rfl u5 rfl;have bs:a6 af 74 1 [(0,.int .u8 (a.byte.toNat:Nat))]= .ok (aa 5 [.int .u8 (a.byte.toNat:Nat)],.mO 1 2):=Eh;have hf1:eN (G.alloc (aa 5 [.int .u8 (a.byte.toNat:Nat)])).get 1 [a.byte].length (.slice (some ⟨G.next,0,none⟩) 1 2)= .ok (cZ [a.byte]):=gK vH.2;obtain⟨v1,v2,H,I,e1,e2,e3,e4,e5,e6⟩:=hWG.more (cs:=[a.byte]) (z:=.slice (some ⟨G.next,0,none⟩) 1 2) kH z_ rfl (by simp) (by simp;omega) rfl hf1;have l1:=e1 G (qao _) rfl;have l1':=e1 _ kH.1 (kH.2 p (by have:=kG.1;omega));have c3:∀E:Mem,G.next≤E.next→E.get F.next=G.get F.next→ag af E.get 113 (.pointer (some ⟨F.next,0+1,none⟩))= .ok (.int .u64 a.out)∧ag af E.get 3 (.pointer (some ⟨F.next,0+2,none⟩))= .ok (.int .i64 a.to):=fun E hn hE=>⟨VB.ld (tb:=af) ⟨qaD vG.1 hn,vG.2.same hE⟩ rfl fp rfl,VB.ld (tb:=af) ⟨qaD vG.1 hn,vG.2.same hE⟩ rfl u3 rfl⟩
    have hbF:b2<F.next:=by obtain⟨_,-,-,-,h⟩:=hW2;exact h (by simp [hw0])
    obtain⟨c4,c5⟩:=c3 I e6.n (e6.g _ vG.1 (by omega) (by omega));have su:aM .sub .i64 ((i:Nat):Int) ((a.to:Nat):Int)= .ok (.int .i64 (i-a.to:Nat)):=br (by omega) (aV (by omega));have cv:=bM (tb:=af) (s:=3) (d:=113) (k:=.i64) (n:=i-a.to) (by rw [u3];rfl) fp (cV (by omega));obtain⟨J,b3,⟨g,hg⟩,hJ,hGJ⟩:=mL [a.out,i-a.to] e5 (by simp) (by simp) (by simp;omega) (by simp only [qar,qaS];omega);simp only [qbx,qcp,qaA,qaT,qam,qeu] at hg;apply W.cN (g) 20
    ·intro M hM;simp (config:={maxSteps:=4000000}) (disch:=first|decide+kernel|omega|simp only [Wq,qal]) only [GQ,rH,qdo,Aq,qaq,reduceIte,qal,qam,g0,g1,g39,g40,g41,hlt,j3,j4,Gl,au,hGG,sG,ak,aF,qT,CQ,pH,qR,nb,l1,l1',c0,bs,e2,e3,e4,c4,c5,su,cv,Ch,hg,bL,Fq,aA []];rfl
    refine⟨hlt,_,J,rfl,b3,?_,?_,?_⟩
    ·rw [hT];have:w++lu s++(z++ky i a)=w++lu s++z++[a.byte]++eR [a.out,i-a.to]:=by unfold ky eR;simp
     rw [this];exact hJ
    ·have hFG:Grow p b2 F _ I:=⟨qaV kG.1 e6.n,qaV kG.1 e6.r,fun z hz e1 e2=>by rw [e6.g z (qaD hz kG.1) e1 e2,kG.2 z hz]⟩;exact hG2.trans (hFG.trans hGJ)
    ·simp only [Sq,qal,qam,g0,g1,g39,g40]
   ·have hee:e=s.arcs.length:=by omega
    subst hee;apply W.run 20
    ·intro M;simp (disch:=first|decide+kernel|omega) only [GQ,rH,qdo,Aq,qal,g40,g41,hlt];rfl
    rw [qaR] at hW2;exact⟨by simp,rfl,_,(by simp only [qdo,Aq,qal]<;>rfl),rfl,b2,by unfold Gs;rw [←qbh];exact hW2,hG2⟩
  ·simp only [Sq,qal,qam,g0,g1]
noncomputable def zF:Code:=qcP.body.getD .skip
noncomputable def Np:Code:=sub zF [1,1,1,1,1,0,1,0,0]
theorem UB:qcP.body=some (.seq (sub zF [0]) (.seq (sub zF [1,0]) (.seq (sub zF [1,1,0]) (.seq (sub zF [1,1,1,0]) (.seq (sub zF [1,1,1,1,0]) (.seq (.seq (sub zF [1,1,1,1,1,0,0]) (.block 0 (.loop Np))) (.seq (sub zF [1,1,1,1,1,1,0]) (.seq (sub zF [1,1,1,1,1,1,1,0]) (sub zF [1,1,1,1,1,1,1,1]))))))))):=by kernel_rfl
theorem Xl {k:Int}:ct af 195 [(1,.agg ⟨[y,.int .u64 k]⟩)]= .ok (.agg ⟨[.slice none 0 0,y,.int .u64 k]⟩):=by kernel_rfl
theorem O7 (h:i≤M.length):([67,83,1]++eR [n,M.length]++jC 0 (M.take i)).length+(cK k).length≤(ib n M k).length:=by
 have:=F9 M 0 i;unfold ib eR;simp only [qar,qbl,List.flatMap_nil,qbt];omega
theorem PC (h:dJ A M y) (hM:M≠ []) (hn:n≤100000) (hl:M.length<1000000) (hL:Lay M) (hk:k<18446744073709551616) (hb:(ib n M k).length<900000):
 ∃v A',bg af 64 [.int .i64 n,.agg ⟨[y,.int .u64 k]⟩] A v A'∧v= .tuple ⟨[aj (crc.bP (ib n M k)),iN 0]⟩∧Kp A A':=by
 refine cF (aq Tryz.func64) UB (by kernel_rfl) ?_;have kB:=Kp.alloc A (aa 115 [y,.int .u64 k]);have vB:=ay A 115 [y,.int .u64 k];have hy:=h.self;apply W.q
 ·intro M;simp (disch:=first|decide+kernel|omega) only [zF,qcP,Aq,qal,au];rfl
 have hB:=h.kp kB;have nB:(A.alloc (aa 115 [y,.int .u64 k])).next=A.next+1:=ae _ _
 generalize A.alloc (aa 115 [y,.int .u64 k])=B at kB vB hB nB;obtain⟨d,hd1,hd2⟩:=a8 (t:=115) (p:=true) (by kernel_rfl);have lA:∀D,Kp B D→ag af D.get 115 (pw A.next 0)= .ok (.agg ⟨[y,.int .u64 k]⟩):=fun D hD=>aI hd1 hd2 du (vB.kp hD).2
 have lB:=lA B (Kp.refl _);obtain⟨v,C,⟨g,hg⟩,rfl,kC⟩:=PB (k:=k) hB hM hn hl hL;have lC:=lA C kC;apply W.seq;apply W.qG (g)
 ·intro M hM;simp (disch:=first|decide+kernel|omega) only [zF,qcP,Aq,qal,lB,hg];rfl
 apply W.run 20
 ·intro M;simp (disch:=first|decide+kernel|omega) only [zF,qcP,Aq,qal];rfl
 show W af _ _ _;have kD:=Kp.alloc C (aa 195 [.slice none 0 0,y,.int .u64 k]);have vD:=ay C 195 [.slice none 0 0,y,.int .u64 k];apply W.q
 ·intro M;simp (disch:=first|decide+kernel|omega) only [zF,qcP,Aq,qal,lC,Xl,au];rfl
 have hW:Wr (C.alloc (aa 195 [.slice none 0 0,y,.int .u64 k])) C.next (C.next+1) [] y k:=⟨.slice none 0 0,vD,.inl ⟨rfl,rfl⟩,by omega,fun h=>absurd rfl h⟩
 generalize C.alloc (aa 195 [.slice none 0 0,y,.int .u64 k])=D at kD vD hW;have kAD:=kB.trans (kC.trans kD);have nD:B.next≤C.next:=kC.1
 have hcs:eN D.get 1 ([67,83,1]:List UInt8).length (aj [67,83,1])= .ok (cZ [67,83,1]):=GF;obtain⟨v1,v2,E,F,e1,e2,e3,e4,e5,e6⟩:=hW.more (cs:=[67,83,1]) (z:=aj [67,83,1]) (Kp.refl _) u9 rfl (by simp) (by simp) rfl hcs;have l1:=e1 D (qao _) rfl;have kBF:=e6.kp (kC.trans kD) nD (by omega);have b1:∀G,Kp B G→ag af G.get 112 (pw A.next 0)= .ok y∧ag af G.get 113 (pw A.next (0+1))= .ok (.int .u64 k):=fun G k=>⟨(vB.kp k).ld rfl fy rfl,(vB.kp k).ld rfl fp rfl⟩
 apply W.q
 ·intro M;simp (disch:=first|decide+kernel|omega) only [zF,qcP,Aq,qal,ak,aF,qT,CQ,l1,XM,e3,e4];rfl
 have cn:=bM (tb:=af) (s:=3) (d:=113) (k:=.i64) (n:=n) (by rw [u3];rfl) fp (cV (by omega));have cl:=bM (tb:=af) (s:=3) (d:=113) (k:=.i64) (n:=M.length) (by rw [u3];rfl) fp (cV (by omega));have gP:=(hB.kp kBF.1).len;have lyF:=(b1 F kBF.1).1;obtain⟨G,b',⟨g,hg⟩,hG,hGG⟩:=mL [n,M.length] e5 (by simp) (by simp) (by simp;omega) (by simp);simp only [qbx,qcp,qaA,qaT,qam,qeu] at hg;apply W.qG (g)
 ·intro M hM;simp (config:={maxSteps:=4000000}) (disch:=first|decide+kernel|omega|simp only [Wq,qal]) only [zF,qcP,Aq,qaq,reduceIte,qal,qam,ak,aF,qT,ed,lyF,gP,cn,cl,Ch,hg,Fq,aA []];rfl
 obtain⟨kG,hb'⟩:=hGG.kp kBF.1 nD kBF.2;have lenG:=(hB.kp kG).len;have lyG:=(b1 G kG).1;apply W.seq;apply W.q
 ·intro M;simp (disch:=first|decide+kernel|omega) only [zF,qcP,Aq,qal,ed,lyG,lenG];rfl
 apply W.block;refine W.up M.length (fun i t H=>∃b2,Wr H C.next b2 ([67,83,1]++eR [n,M.length]++jC 0 (M.take i)) y k∧Kp B H∧B.next≤b2∧Sl t [(3,pw A.next 0),(6,pw C.next 0),(38,iN M.length),(39,.int .i64 i)]) ?_ (qaB _) ⟨b',by simpa [jC] using hG,kG,hb',?_⟩
 ·rintro i t H hi ⟨b2,hH,kH,hb2,g3,g6,g38,g39,-⟩;by_cases hlt:i<M.length
  ·have hMi:M[i]?=some M[i]:=qan hlt;have hT:=Mn hMi;have hle:=O7 (n:=n) (k:=k) (show i+1≤M.length by omega);rw [hT] at hle;obtain⟨v,I,⟨g,hg⟩,rfl,b3,hI,hGI⟩:=Il hB kH nD hb2 hH hMi hL hl (by simp) (by rw [qbh];omega);obtain⟨kI,hb3⟩:=hGI.kp kH nD hb2;apply W.cN (g) 20
   ·intro M hM;simp (disch:=first|decide+kernel|omega) only [Np,zF,qcP,Aq,qal,g6,g38,g39,hlt,hg];rfl
   refine⟨hlt,_,I,rfl,b3,?_,kI,hb3,?_⟩
   ·rw [hT,←qbh];exact hI
   ·simp only [Sq,qal,qam,g3,g6,g38]
  ·have e:i=M.length:=by omega
   subst e;rw [qaR] at hH;have hle:=O7 (M:=M) (n:=n) (k:=k) (qao _);rw [qaR] at hle;apply W.run 20
   ·intro M;simp (disch:=first|decide+kernel|omega) only [Np,zF,qcP,Aq,qal,g38,g39,hlt];rfl
   show W af _ _ _;have lk:=(b1 H kH).2;obtain⟨I,b3,⟨g,hg⟩,hI,hGI⟩:=mL [k] hH (by simp) (by simp) (by simpa using hk) (by omega);simp only [qbx,qcp,qaA,qaT,qam,qeu] at hg;obtain⟨kI,-⟩:=hGI.kp kH nD hb2;apply W.qG (g)
   ·intro M hM;simp (config:={maxSteps:=4000000}) (disch:=first|decide+kernel|omega|simp only [Wq,qal]) only [zF,qcP,Aq,qaq,reduceIte,qal,qam,g3,g6,ak,aF,qT,Ht,lk,IP,hg,Fq,aA []];rfl
   obtain⟨x,hV,hS,-⟩:=hI;have lx:ag af I.get 74 (pw C.next 0)= .ok x:=hV.ld rfl z_ rfl;have e: [67,83,1]++eR [n,M.length]++jC 0 M++eR [k]=ib n M k:=by unfold ib eR;simp
   rw [e] at hS;have cs:df af I.get 74 9 x= .ok (aj (ib n M k)):=sQ hS.mO;have ks:=fun ih=>Vd (ih:=ih) (A:=I) hb
   apply W.q
   ·intro M;simp (disch:=first|decide+kernel|omega) only [zF,qcP,Aq,qal,g6,ak,aF,qT,CQ,lx,Sc,cs,ks];rfl
   apply W.run 20
   ·intro M;simp (disch:=first|decide+kernel|omega) only [zF,qcP,Aq,qal];rfl
   exact⟨by simp,rfl,_,(by simp only [qcP,Aq,qal]<;>rfl),rfl,kB.trans kI⟩
 ·simp only [Sq,qal,qam]
noncomputable def um:Code:=qdw.body.getD .skip
theorem CA:qdw.body=some (.seq (sub um [0]) (.seq (sub um [1,0]) (.seq (sub um [1,1,0]) (.seq (sub um [1,1,1,0]) (.seq (sub um [1,1,1,1,0]) (sub um [1,1,1,1,1])))))):=by kernel_rfl
theorem yV {x:Value} (h:en A [] x):bg af 21 [x] A (.tuple ⟨[aj [],iN 2]⟩) A:=by
 have hl:=h.len;have he:∀t:T Value,ev t (.const (.string ⟨#[]⟩))= .ok (aj []):=fun _=>rfl
 refine wI (aq Tryz.func21) CA (by kernel_rfl) ?_;apply W.q
 ·intro M;simp (disch:=first|decide+kernel|omega) only [um,qdw,Aq,qal,he];rfl
 apply W.seq;apply W.run 20
 ·intro M;simp (config:={maxSteps:=4000000}) (disch:=first|decide+kernel|omega|simp only [Wq,qal]) only [um,qdw,Aq,qaq,reduceIte,qal,qam,hl,qaT,he];rfl
 exact⟨by simp,rfl,rfl,by simp only [qdw,Aq,qaq,reduceIte,qal,qam]<;>rfl⟩
theorem BD {l:List aP} {x:Value} (h:en A l x) (hl:DV l):
 ∃v A',bg af 21 [x] A v A'∧v= .tuple ⟨[aj (crc.bP (gq l)),iN 0]⟩∧Kp A A':=by
 refine cF (aq Tryz.func21) CA (by kernel_rfl) ?_;obtain⟨o1,o2,o3,o4,o5,o6,o7,o8,o9⟩:=id hl;have h0:¬l.length=0:=fun e=>o1 (qaP.1 e)
 have h2:¬100000<l.length:=by omega
 have he:∀t:T Value,ev t (.const (.string ⟨#[]⟩))= .ok (aj []):=fun _=>rfl
 have hlen:=h.len;obtain⟨v,B,⟨g1,h1⟩,⟨y,rfl,hS⟩,kB⟩:=Ib h o1 o2 o3 o4.2 (by omega);have kC:=Kp.alloc B (aa 115 [y,uN (least l)]);have sC:aW af (B.alloc (aa 115 [.slice none 0 0,uN 0])) 115 (pw B.next 0) (.agg ⟨[y,uN (least l)]⟩)= .ok (B.alloc (aa 115 [y,uN (least l)])):=bk du rfl rfl (by simp) (by
  intro v hv;simp only [qaK,qbb,or_false] at hv;rcases hv with rfl|rfl
  ·obtain⟨_,_,hS,-⟩:=hS;exact(az.dk hS).2
  ·rfl)
 have lC:ag af (B.alloc (aa 115 [y,uN (least l)])).get 115 (pw B.next 0)= .ok (.agg ⟨[y,uN (least l)]⟩):=xW du (by kernel_rfl);have hlenC:=((h.kp kB).kp kC).len;have hSC:=hS.kp kC;generalize B.alloc (aa 115 [y,uN (least l)])=C at sC lC kC hlenC hSC;obtain⟨v,D,⟨g2,hg2⟩,rfl,kD⟩:=PC (n:=l.length) (k:=least l) hSC o6 (by omega) (by omega) o7 o8 (by show(gq l).length<_;omega);apply W.q
 ·intro M;simp (disch:=first|decide+kernel|omega) only [um,qdw,Aq,qal,he];rfl
 apply W.q
 ·intro M;simp (config:={maxSteps:=4000000}) (disch:=first|decide+kernel|omega|simp only [Wq,qal]) only [um,qdw,Aq,qaq,reduceIte,qal,qam,hlen,h0,h2,cT,bY];rfl
 apply W.qG (g1)
 ·intro M hM;simp (disch:=first|decide+kernel|omega) only [um,qdw,Aq,qal,h1,qau,qav,DQ,au,sC];rfl
 apply W.q
 ·intro M;simp (disch:=first|decide+kernel|omega) only [um,qdw,Aq,qal];rfl
 apply W.qG (g2)
 ·intro M hM;simp (disch:=first|decide+kernel|omega) only [um,qdw,Aq,qal,hlenC,lC,hg2,qau,qav];rfl
 apply W.run 20
 ·intro M;simp (disch:=first|decide+kernel|omega) only [um,qdw,Aq,qal];rfl
 exact⟨by simp,rfl,_,(by simp only [qdw,Aq,qal]<;>rfl),rfl,kB.trans (kC.trans kD)⟩
end Go.Proofs.YtjoceidiioppiaaGreatDoor.sto
end
