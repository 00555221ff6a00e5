/- The abstract machine, the walk of the law and its plain laws, made small by a program; part 9: no conditions but those in each theorem. -/
import Derived.Test.YtggndfefpbmaeaaGreatDoorQ08
import Derived.Test.YtggndfefpbmaeaaGreatDoorRows
import Derived.WalkKit
import Derived.ProofKit
import Derived.OpenShut
import Derived.ShutString
import Derived.ChangeOld
import Derived.Below
import Derived.Deep.Slices
import Derived.Deep.Fields
import Derived.ChangeSame
import Derived.MakeChecks
import Derived.LaidMore
import Derived.Lay
import Derived.Stop.Joined
import Derived.ChangeMaps5
set_option maxHeartbeats 16000000
set_option maxRecDepth 100000
set_option linter.unusedSimpArgs false
set_option linter.unusedVariables false
noncomputable section
open Nat renaming reduceEqDiff→Zf,reduceAdd→Zg,ble→Zj,le_refl→Zn,beq→Zr,blt→Zt,zero_le→Zv,eq_of_beq_eq_true→ZA,blt_eq→ZB,lt_or_ge→ZS,zero_add→ZT,add_zero→Z8,min_eq_left→qam,lt_of_le_of_lt→qan,lt_irrefl→qau,mod_lt→qav,mul_one→qaw,sub_self→qaz,mod_eq_of_lt→qaG,not_lt_zero→qaS,mod→qa0,add_assoc→qa3,beq_eq→qbd,sub_add_cancel→qbf,strongRecOn→qbL,add_sub_cancel_left→qcq,mul_mod_right→qcG,le_of_lt→qdc,beq_refl→qdA
open List renaming getElem?_eq_getElem→Zi,getElem?_cons_succ→Zk,getElem?_eq_some_iff→Zl,getElem?_cons_zero→Zm,length_append→Zo,length_map→Zp,take_succ_eq_append_getElem→Zs,length_cons→Zu,length_eq_zero_iff→Zw,mem_cons_of_mem→Zx,mem_cons_self→Zy,mem_cons→ZC,length_take→ZD,length_nil→ZG,getElem?_map→ZH,take_length→ZL,mem_of_getElem?→ZM,getElem?_append_right→ZN,getElem_mem→ZO,length_set→ZR,getElem?_append_left→ZU,length_pos_iff→ZW,mem_map→ZX,map_eq_nil_iff→ZZ,not_mem_nil→Z0,map_append→Z3,cons_append→Z5,mem_singleton→Z9,flatMap_cons→qaa,getD_eq_getElem?_getD→qab,nil_append→qac,drop_eq_getElem_cons→qad,length_singleton→qae,getElem?_set→qaj,length_drop→qak,map_cons→qar,mem_append→qas,range→qay,mem_filter→qaF,flatMap_append→qaH,take_of_length_le→qaJ,flatten_cons→qaO,mem_append_right→qaP,take_zero→qaQ,getElem?_drop→qaT,drop_zero→qa5,nodup_append→qbm,getElem?_range→qbq,take_succ_cons→qbr,mem_flatMap→qbx,getElem?_take→qbB,getElem?_take_of_lt→qbI,mem_append_left→qbJ,mem_of_mem_take→qbK,nodup_cons→qb5,getElem_map→qcj,nodup_nil→qcI,take_append_drop→qcJ,map→qcW,drop_succ_cons→qc6,map_set→qda
open Prod.mk renaming injEq→Zq
open Bool renaming false_eq_true→Zz,and_true→qbu,or_eq_false_iff→qbH,or_eq_true→qdz,and_false→qdE
open Array renaming getElem?_eq_some_iff→ZE,getElem?_toList→ZK
open Option.some renaming injEq→ZQ,inj→Z_
open Option renaming map_some→Z1,getD_some→qal
open List.cons renaming injEq→Z2
open Go.Proofs.Tryz renaming prog→Z6,f4→qag,f213→qaZ,underlying5→qbl,checked→qbN,f130→qbX,f233→qb1,f12→qcZ,f14→qc0,f212→qdj,func4→qdD,f183→qdP
open UInt8 renaming ofNat→qaD,toNat_ofNat'→qdo
namespace Go.Proofs.YtggndfefpbmaeaaGreatDoor.sto
open Go.Am Go.Mdl Go.Sto
theorem pG:∀{fs:List (List UInt8×List UInt8)} {i:Nat} {f:List UInt8×List UInt8},(fs.map (·.1)).Nodup→fs[i]?=some f→fileOf fs f.1=some f.2
 |g::fs,0,f,_,h=>by
  cases h;unfold fileOf;rw [List.find?_cons,decide_eq_true rfl];rfl
 |g::fs,i+1,f,hn,h=>by
  rw [Zk] at h;rw [qar,qb5] at hn;have hne:f.1≠g.1:=fun e=>hn.1 (e▸ZX.2 ⟨f,ZM h,rfl⟩)
  have ih:=pG hn.2 h;unfold fileOf at ih⊢;rw [List.find?_cons,decide_eq_false hne];exact ih
variable {b:Nat}
theorem Pd {a:Nat} (ha:a≤6) (hb:b≤6) (h:eF a=eF b):a=b:=by
 have:a=0∨a=1∨a=2∨a=3∨a=4∨a=5∨a=6:=by omega
 have:b=0∨b=1∨b=2∨b=3∨b=4∨b=5∨b=6:=by omega
 rcases‹a=0∨_› with rfl|rfl|rfl|rfl|rfl|rfl|rfl<;>rcases‹b=0∨_› with rfl|rfl|rfl|rfl|rfl|rfl|rfl<;>first|rfl|(exact absurd h (by decide))
theorem Pe (n:Nat):eF n≠m8:=by unfold eF m8;simp
theorem vM:∀{ls:List (List aG)},ls.length≤6→((eu ls).map (·.1)).Nodup
 | [],_=>qcI
 |l::r,h=>by
  rw [eu,qar,qb5];rw [Zu] at h;refine⟨fun hm=>?_,vM (by omega)⟩;obtain⟨f,hf,he⟩:=ZX.1 hm;obtain⟨n,h1,h2,h3⟩:=gM hf;have:=Pd (by omega) (by omega) (h3.symm.trans he);omega
variable {ls:List (List aG)}
theorem KH (k:Nat) (o:List UInt8) (h:ls.length≤6):((NN ls k o).map (·.1)).Nodup:=by
 unfold NN;rw [Z3,qbm];refine⟨?_,by simp,?_⟩
 ·unfold fy;rw [Z3,qbm];refine⟨vM h,by simp,?_⟩;rintro a ha b hb rfl;obtain⟨f,hf,rfl⟩:=ZX.1 ha;obtain⟨n,-,-,e⟩:=gM hf;have:f.1=m8:=by simpa using hb
  exact Pe n (e.symm.trans this)
 ·rintro a ha b hb rfl;obtain⟨f,hf,rfl⟩:=ZX.1 ha;have:f.1=Ts:=by simpa using hb
  exact Rz hf this
variable {k:Nat}
theorem NO {o:List UInt8}:∀f∈NN ls k o,0<f.1.length∧f.1.length≤64:=by
 intro f hf;unfold NN fy at hf;rcases qas.1 hf with hf|hf
 ·rcases qas.1 hf with hf|hf
  ·obtain⟨n,-,-,e⟩:=gM hf;rw [e];exact⟨by simp [eF],by simp [eF]⟩
  ·rw [Z9.1 hf];exact⟨by show 0<m8.length;decide,by show m8.length≤64;decide⟩
 ·rw [Z9.1 hf];exact⟨by show 0<Ts.length;decide,by show Ts.length≤64;decide⟩
theorem Bb:∀l:List Nat,(∀n∈l,n<18446744073709551616)→(bV l).length≤9*l.length
 | [],_=>Zn _
 |n::l,h=>by
  have h1:=Bb l fun x hx=>h x (Zx _ hx)
  have h2:=eU n (h n Zy);unfold bV at h1⊢;rw [qaa,Zo,Zu];omega
theorem Ro {m:jc} (hm:nX m) (hl:m.segs.length≤6):(iC m).length<800000:=by
 obtain⟨m1,m2,m3,m4,-⟩:=hm;have hlen:=sR m.segs;have:=Bb ([m.ver,1,m.next,m.segs.length]++dy m.segs) (fun n hn=>by
  rcases qas.1 hn with hn|hn
  ·simp only [ZC,Z0,or_false] at hn;omega
  ·obtain⟨s,hs,hn⟩:=qbx.1 hn;obtain⟨⟨-,o2⟩,⟨-,o4⟩,-,o6⟩:=m4 s hs;simp only [ZC,Z0,or_false] at hn;omega)
 rw [Zo,hlen] at this;unfold iC;rw [Zo];simp only [Zu,ZG] at this⊢;omega
structure Zb (ls:List (List aG)) (k q:Nat) (o Y:List UInt8) (G:List (List UInt8×List UInt8)) (is:Bool) (j:Option Nat) (s:List UInt8):Prop where
 man:fileOf G m8=some s
 mans:DA is (fb ls k) s
 segs:XT G ls j
 name:∀f∈G,0<f.1.length∧f.1.length≤64
 nodup:(G.map (·.1)).Nodup
 len:G.length=ls.length+2
variable {fs:List (List UInt8×List UInt8)}
theorem uz {q:Nat} {f:List UInt8×List UInt8} {Y:List UInt8} (h:fs[q]?=some f):(fs.set q (f.1,Y)).map (·.1)=fs.map (·.1):=by
 rw [qda];refine List.ext_getElem? fun i=>?_
 rw [qaj];split
 ·rename_i e;subst e;obtain⟨hi,rfl⟩:=Zl.1 h;rw [if_pos (by rw [Zp];exact hi),ZH,h];rfl
 ·rfl
section
variable {ls:List (List aG)} {k:Nat}
theorem gQ (k:Nat) (h:ls.length≤6):((fy ls k).map (·.1)).Nodup:=by
 have:=KH k [] h;unfold NN at this;rw [Z3,qbm] at this;exact this.1
theorem sV:∀f∈fy ls k,0<f.1.length∧f.1.length≤64:=fun f hf=>NO (o:=[]) f (qbJ _ hf)
variable {i:Nat} {l:List aG}
theorem gx (h:ls[i]?=some l):(fy ls k)[i]?=some (eF (ls.length-i),crc.aN (cX l)):=by
 have hi:=(Zl.1 h).1;unfold fy;rw [ZU (by rw [dJ];exact hi)];exact qL h
theorem CW (ls:List (List aG)) (k:Nat):(fy ls k)[ls.length]?=some (m8,crc.aN (iC (fb ls k))):=by
 unfold fy;rw [ZN (by rw [dJ];exact Zn _),dJ,qaz];rfl
theorem G5 (hls:ls.length≤6) (hok:∀l∈ls,wo l):DA true (fb ls k) (crc.aN (iC (fb ls k))):=by
 have hmo:=IV (k:=k) hok hls;have hml:=Ro hmo (by show(cV ls).length≤6;rw [eW];exact hls);have hsl:=te (iC (fb ls k));exact⟨hmo,hml,by omega,rfl⟩
theorem Ef {f:List UInt8×List UInt8} (hn:(fs.map (·.1)).Nodup) (h:f∈fs):fileOf fs f.1=some f.2:=by
 obtain⟨i,hi⟩:=List.getElem?_of_mem h;exact pG hn hi
variable {w:List UInt8}
theorem Kq (h:w∉fs.map (·.1)):fileOf fs w=none:=by
 unfold fileOf;rw [List.find?_eq_none.2]
 ·rfl
 ·intro f hf he;have he:w=f.1:=by simpa using he
  exact h (he▸ZX.2 ⟨f,hf,rfl⟩)
theorem IL (hls:ls.length≤6) (hok:∀l∈ls,wo l):∀(i:Nat) (l:List aG),ls[i]?=some l→Ao (fy ls k) (eF (ls.length-i)) ls[i]?:=fun i l h=>by
 rw [h];exact⟨hok l (ZM h),pG (gQ k hls) (gx h)⟩
theorem sm (l:List aG):qM l (some l)=true:=decide_eq_true ⟨rfl,rfl⟩
def wA (fs:List (List UInt8×List UInt8)) (q:Nat):List (List UInt8×List UInt8):=fs.take q++fs.drop (q+1)
theorem Kj {q:Nat} {f:List UInt8×List UInt8} (h:fs[q]?=some f):fs=fs.take q++f::fs.drop (q+1):=by
 obtain⟨hq,rfl⟩:=Zl.1 h;rw [←qad hq,qcJ]
theorem tZ {q:Nat} {f:List UInt8×List UInt8} (h:fs[q]?=some f) (hn:(fs.map (·.1)).Nodup):((wA fs q).map (·.1)).Nodup∧f.1∉(wA fs q).map (·.1):=by
 rw [Kj h,Z3,qar] at hn;obtain⟨h1,h2,h3⟩:=qbm.1 hn;rw [qb5] at h2;unfold wA;rw [Z3];refine⟨qbm.2 ⟨h1,h2.2,fun a ha b hb=>h3 a ha b (Zx _ hb)⟩,fun hm=>?_⟩;rcases qas.1 hm with hm|hm
 ·exact h3 _ hm _ Zy rfl
 ·exact h2.1 hm
theorem Ip {q:Nat} {f:List UInt8×List UInt8} (h:fs[i]?=some f) (hi:i≠q):f∈wA fs q:=by
 obtain⟨hl,rfl⟩:=Zl.1 h;unfold wA;rcases ZS i q with hq|hq
 ·exact qbJ _ (List.mem_take_iff_getElem.2 ⟨i,by omega,rfl⟩)
 ·refine qaP _ (List.mem_drop_iff_getElem.2 ⟨i-(q+1),by omega,?_⟩);congr 1;omega
theorem Q_ {q:Nat} (hls:ls.length≤6) (hok:∀l∈ls,wo l) (hq:q<ls.length):∀(i:Nat) (l:List aG),ls[i]?=some l→Ao (wA (fy ls k) q) (eF (ls.length-i)) (if i=q then none else ls[i]?):=fun i l h=>by
 have hn:=gQ k hls;have hfq:=gx (k:=k) (Zi hq);obtain⟨c1,c2⟩:=tZ hfq hn;by_cases hi:i=q
 ·subst hi;rw [if_pos rfl];exact Kq c2
 ·rw [if_neg hi,h];exact⟨hok l (ZM h),Ef c1 (Ip (gx h) hi)⟩
theorem Nt {q:Nat} (hls:ls.length≤6) (hq:q<ls.length):fileOf (wA (fy ls k) q) m8=some (crc.aN (iC (fb ls k))):=by
 have hfq:=gx (k:=k) (Zi hq);exact Ef (tZ hfq (gQ k hls)).1 (Ip (CW ls k) (by omega))
def Pt (fs:List (List UInt8×List UInt8)) (q r:Nat) (w v:List UInt8) (Y Z:List UInt8):List (List UInt8×List UInt8):=(fs.set q (w,Y)).set r (v,Z)
def FO (ls:List (List aG)) (q r:Nat):List (List aG):=(ls.set q (ls.getD r [])).set r (ls.getD q [])
theorem Sp (ls:List (List aG)) (q r:Nat):(FO ls q r).length=ls.length:=by unfold FO;rw [ZR,ZR]
variable {r:Nat}
theorem u7 {q:Nat} (hq:q<ls.length) (hr:r<ls.length) (hi:i<ls.length):(FO ls q r)[i]?=some (if i=r then ls[q] else if i=q then ls[r] else ls[i]):=by
 unfold FO;rw [qaj,qaj,ZR];simp only [qab,Zi hq,Zi hr,Zi hi,qal];by_cases h1:i=r
 ·subst h1;simp [hr]
 ·have h1':¬r=i:=fun h=>h1 h.symm
  by_cases h2:i=q
  ·subst h2;simp [h1,h1',hq]
  ·have h2':¬q=i:=fun h=>h2 h.symm
   simp [h1,h1',h2,h2']
theorem BD {q:Nat} {f g:List UInt8×List UInt8} {Y Z:List UInt8} (hq:fs[q]?=some f) (hr:fs[r]?=some g):(Pt fs q r f.1 g.1 Y Z).map (·.1)=fs.map (·.1):=by
 unfold Pt;have h1:=uz (Y:=Y) hq;by_cases e:q=r
 ·subst e;obtain rfl:f=g:=Z_ (hq.symm.trans hr);rw [List.set_set];exact uz hq
 ·have h2:(fs.set q (f.1,Y))[r]?=some g:=by rw [qaj,if_neg e];exact hr
  rw [uz h2,h1]
theorem Vi {q:Nat} (hq:q<ls.length) (hr:r<ls.length) (hi:i<ls.length):(Pt (fy ls k) q r (eF (ls.length-q)) (eF (ls.length-r)) (crc.aN (cX ls[r])) (crc.aN (cX ls[q])))[i]?=some (eF (ls.length-i),crc.aN (cX (if i=r then ls[q] else if i=q then ls[r] else ls[i]))):=by
 have hl:=mq ls k;unfold Pt;rw [qaj,qaj,ZR];have hlt:i<(fy ls k).length:=by omega
 by_cases h1:i=r
 ·subst h1;simp [hlt]
 ·have h1':¬r=i:=fun h=>h1 h.symm
  by_cases h2:i=q
  ·subst h2;simp [h1,h1',hlt]
  ·have h2':¬q=i:=fun h=>h2 h.symm
   simp only [h1,h1',h2,h2',if_false];exact gx (Zi hi)
theorem rz {q:Nat} {Y Z:List UInt8} (hls:ls.length≤6) (hq:q<ls.length) (hr:r<ls.length):((Pt (fy ls k) q r (eF (ls.length-q)) (eF (ls.length-r)) Y Z).map (·.1)).Nodup:=by
 have:=BD (Y:=Y) (Z:=Z) (gx (k:=k) (Zi hq)) (gx (k:=k) (Zi hr));rw [this];exact gQ k hls
theorem Py {q:Nat} {Y Z:List UInt8} (hls:ls.length≤6) (hq:q<ls.length) (hr:r<ls.length):fileOf (Pt (fy ls k) q r (eF (ls.length-q)) (eF (ls.length-r)) Y Z) m8=some (crc.aN (iC (fb ls k))):=by
 refine pG (rz hls hq hr) (f:=(m8,crc.aN (iC (fb ls k)))) (i:=ls.length) ?_;unfold Pt;rw [qaj,qaj,if_neg (by omega),if_neg (by omega)];exact CW ls k
theorem Sr {q:Nat} (hls:ls.length≤6) (hok:∀l∈ls,wo l) (hq:q<ls.length) (hr:r<ls.length):∀(i:Nat) (l:List aG),ls[i]?=some l→
 Ao (Pt (fy ls k) q r (eF (ls.length-q)) (eF (ls.length-r)) (crc.aN (cX ls[r])) (crc.aN (cX ls[q]))) (eF (ls.length-i)) (FO ls q r)[i]?:=fun i l h=>by
 have hi:=(Zl.1 h).1;rw [u7 hq hr hi];refine⟨?_,pG (rz hls hq hr) (Vi hq hr hi)⟩;split
 ·exact hok _ (ZO hq)
 ·split
  ·exact hok _ (ZO hr)
  ·exact hok _ (ZO hi)
theorem Pu {q:Nat} {Y Z:List UInt8} (hq:q<ls.length) (hr:r<ls.length):∀f∈Pt (fy ls k) q r (eF (ls.length-q)) (eF (ls.length-r)) Y Z,0<f.1.length∧f.1.length≤64:=fun f hf=>by
 have:=BD (Y:=Y) (Z:=Z) (gx (k:=k) (Zi hq)) (gx (k:=k) (Zi hr));have hm:f.1∈(fy ls k).map (·.1):=this▸ZX.2 ⟨f,hf,rfl⟩;obtain⟨g,hg,he⟩:=ZX.1 hm;rw [←he];exact sV g hg
def Alike (a b:List aG):Prop:=(crc.aN (cX a)).length=(crc.aN (cX b)).length∧a.length=b.length
theorem Px {q:Nat} (hq:q<ls.length) (hr:r<ls.length) (ha:Alike ls[q] ls[r]) (h:ls[i]?=some l):qM l (FO ls q r)[i]?=true:=by
 obtain⟨hi,rfl⟩:=Zl.1 h;rw [u7 hq hr hi];refine decide_eq_true ?_;by_cases h1:i=r
 ·subst h1;rw [if_pos rfl];exact ha
 ·rw [if_neg h1];by_cases h2:i=q
  ·subst h2;rw [if_pos rfl];exact⟨ha.1.symm,ha.2.symm⟩
  ·rw [if_neg h2];exact⟨rfl,rfl⟩
theorem LO {q:Nat} (hq:q<ls.length) (hr:r<ls.length) (hi:i<min q r) (h:ls[i]?=some l):qM l (FO ls q r)[i]?=true:=by
 obtain⟨hi2,rfl⟩:=Zl.1 h;rw [u7 hq hr hi2,if_neg (by omega),if_neg (by omega)];exact sm _
theorem Pv {q:Nat} (hq:q<ls.length) (hr:r<ls.length) (ha:¬Alike ls[q] ls[r]) (h:ls[min q r]?=some l):qM l (FO ls q r)[min q r]?=false:=by
 obtain⟨hi2,rfl⟩:=Zl.1 h;rw [u7 hq hr hi2];refine decide_eq_false ?_;rcases ZS q r with hqr|hqr
 ·have e:min q r=q:=by omega
  simp only [e];rw [if_neg (by omega),if_pos trivial];exact fun h=>ha ⟨h.1.symm,h.2.symm⟩
 ·have e:min q r=r:=by omega
  simp only [e];rw [if_pos trivial];exact ha
end
def pj (X:List Nat) (D:Mem) (r:Nat) (E:Mem) (r':Nat):Prop:=D.next≤E.next∧(r'=r∨D.next≤r')∧∀z,z<D.next→z∉X→z≠r→E.get z=D.get z
variable {X:List Nat} {E F:Mem} {r:Nat}
theorem pj.trans {D:Mem} {s t:Nat} (h:pj X D r E s) (k:pj X E s F t):pj X D r F t:=by
 obtain⟨h1,h2,h3⟩:=h;obtain⟨k1,k2,k3⟩:=k;refine⟨by omega,by omega,fun z hz hx hr=>?_⟩;rw [k3 z (by omega) hx (by omega),h3 z hz hx hr]
theorem pj.kp {D:Mem} (h:Kp D E):pj X D r E r:=⟨h.1,.inl rfl,fun z hz _ _=>h.2 z hz⟩
def Mk (X:List Nat) (lp:Nat) (s:a6) (b:Bool) (Q:Nat→Mem→Nat→Prop):Prop:=∀(j:Nat) (a:cL) (D:Mem) (r:Nat),s.arcs[j]?=some a→Q j D r→
 ∃E r',(∃g,∀M,g≤M→bc af (exec af M) (.round lp [.int .u8 (a.byte.toNat:Nat),rJ a]) D= .ok (.val (.bool (b||decide (j+1<s.arcs.length))) E))∧Q (j+1) E r'∧pj X D r E r'
variable {A B:Mem} {M:List a6} {y:Value} {n:Nat}
theorem LD {k:Value} {q lp r0:Nat} {s:a6} {b:Bool} {Q:Nat→Mem→Nat→Prop} (h:dY A M y) (hn:M[n]?=some s) (ht:∀a∈s.arcs,a.to<n) (hp:(s.arcs.map (·.byte)).Pairwise (·<·)) (hl:s.arcs.length≤256) (hM:M.length<1000000)
 (hB:Kp A B) (v1:VB B 105 q (.var 2) [y,k]) (v2:VB B 3 (q+1) (.var 1) [.int .i64 n]) (hX:∀x,(x∈X∨x=r0)→A.next≤x∧x<B.next∧x≠q∧x≠q+1)
 (hK:∀j D E r,Q j D r→Kp D E→Q j E r) (hc:Mk X lp s b Q) (hI:Q 0 B r0):
 ∃v C,bJ af 233 [.func (.yield lp) ⟨[]⟩ ⟨[]⟩,pV q,pV (q+1)] B v C∧∃r,Q s.arcs.length C r∧pj X B r0 C r:=by
 refine cM (av Tryz.func233) Ic (by rw [Tryz.ntmps233];simp) (by kernel_rfl) (by kernel_rfl) ?_;obtain⟨d,hd1,hd2⟩:=bg (t:=105) (p:=true) (by kernel_rfl);have ld1:∀D:Mem,D.get q=B.get q→ai af D.get 105 (.pointer (some ⟨q,0,none⟩))= .ok (.agg ⟨[y,k]⟩):=fun D e=>aI hd1 hd2 (l:=[y,k]) dz (v1.2.same e)
 have ld2:∀D:Mem,D.get (q+1)=B.get (q+1)→ai af D.get 3 (.pointer (some ⟨q+1,0,none⟩))= .ok (.int .i64 n):=fun D e=>aU u3 rfl (v2.2.same e) rfl
 have a1:=ld1 B rfl;have a2:=ld2 B rfl;obtain⟨x,C,⟨g,hg⟩,kC,b0,hR,hb⟩:=zc (h.kp hB) hn ht hp hl hM (k:=k);have lx:=hR.len;rw [Zp] at lx;have hr0:=hX r0 (.inr rfl);have hq1:q∉X:=fun h=>(hX q (.inl h)).2.2.1 rfl
 have hq2:q+1∉X:=fun h=>(hX _ (.inl h)).2.2.2 rfl
 have hbX:∀z,B.next≤z→z∉X:=fun z hz h=>by have:=(hX z (.inl h)).2.1;omega
 have hAX:∀z,z<A.next→z∉X:=fun z hz h=>by have:=(hX z (.inl h)).1;omega
 have kCn:=kC.1;simp only [pV];apply W.qG (g)
 ·intro M hM;simp (disch:=first|decide+kernel|omega) only [Cd,qb1,Aq,Zf,a1,a2,hg,lx];rfl
 apply W.block;refine W.up s.arcs.length (fun j t D=>∃r,Q j D r∧pj X C r0 D r∧Sl t [(0,.func (.yield lp) ⟨[]⟩ ⟨[]⟩),(1,.pointer (some ⟨q,0,none⟩)),(2,.pointer (some ⟨q+1,0,none⟩)),(11,x),(12,.int .i64 s.arcs.length),(13,.int .i64 j)]) ?_ (Zv _) ⟨r0,hK _ _ _ _ hI kC,pj.kp (Kp.refl C),?_⟩
 ·rintro j t D hj ⟨r,hI,hf,g0,g1,g2,g11,g12,g13,-⟩;have hfB:pj X B r0 D r:=(pj.kp kC).trans hf;by_cases hlt:j<s.arcs.length
  ·have hsj:s.arcs[j]?=some s.arcs[j]:=Zi hlt;have hRD:wq D b0 (s.arcs.map (·.byte)) x:=⟨hR.1.same hf.1 fun hz=>hf.2.2 b0 hz (hbX b0 hb) (by omega),hR.2⟩;obtain⟨i1,i2⟩:=hRD.at (i:=j) (by rw [Zp];exact hlt);rw [qcj] at i2;have hBn:=hB.1;have kAD:Kp A D:=⟨by have:=hfB.1;omega,fun z hz=>by rw [hfB.2.2 z (by omega) (hAX z hz) (by omega),hB.2 z hz]⟩;obtain⟨v,E,⟨g,hg⟩,rfl,kE⟩:=Fi (k:=k) (h.kp kAD) hn ht hp hl hsj;generalize s.arcs[j]=a at*;obtain⟨F,r',⟨gy,hy⟩,hI2,hF⟩:=hc j a E r hsj (hK _ _ _ _ hI kE);have hBF:pj X C r0 F r':=(hf.trans (pj.kp kE)).trans hF;have b1:=ld1 D (hfB.2.2 q v1.1 hq1 (by omega));have b2:=ld2 D (hfB.2.2 (q+1) v2.1 hq2 (by omega));have bd:=SY (m:=(a.to:Int)) (n:=(a.out:Int));unfold rJ at hy;cases hu:(b||decide (j+1<s.arcs.length)) with
   |true=>
    rw [hu] at hy;apply W.bf (g+gy) 20
    ·intro M hM;simp (disch:=first|decide+kernel|omega) only [tV,Cd,qb1,Aq,Zf,g0,g1,g2,g11,g12,g13,hlt,i1,i2,b1,b2,hg,Zm,Zk,bd,hy];rfl
    refine⟨hlt,_,_,rfl,r',hI2,hBF,?_⟩;simp only [Sq,Zf,Zg,g0,g1,g2,g11,g12]
   |false=>
    rw [hu] at hy;simp only [qbH,decide_eq_false_iff_not] at hu;have e:j+1=s.arcs.length:=by omega
    apply W.bf (g+gy) 20
    ·intro M hM;simp (disch:=first|decide+kernel|omega) only [tV,Cd,qb1,Aq,Zf,g0,g1,g2,g11,g12,g13,hlt,i1,i2,b1,b2,hg,Zm,Zk,bd,hy];rfl
    exact⟨by simp,rfl,_,(by simp only [qb1,Aq,Zf]<;>rfl),r',e▸hI2,(pj.kp kC).trans hBF⟩
  ·have e:j=s.arcs.length:=by omega
   subst e;apply W.run 20
   ·intro M;simp (disch:=decide+kernel) only [tV,Cd,qb1,Aq,Zf,g12,g13];rfl
   exact⟨by simp,rfl,_,(by simp only [qb1,Aq,Zf]<;>rfl),r,hI,hfB⟩
 ·simp only [Sq,Zf,Zg]
theorem Ss:∃d,af.bp 105=some d∧cH d=true:=bg (t:=105) (p:=true) (by kernel_rfl)
theorem OZ {a:List UInt8}:bJ af 214 [strOf a,strOf []] A (.bool false) A:=by
 have e:db .lss a []= .ok (.bool false):=by
  show R.ok (Value.bool (aZ a []))=_;cases a<;>rfl
 refine aP (av Tryz.func214) (c:=Tryz.f214.body.getD .skip) (by kernel_rfl) (by rw [Tryz.ntmps214];simp) (by kernel_rfl) (by kernel_rfl) ?_;apply W.run 60
 ·intro M;simp (disch:=decide+kernel) only [Tryz.f214,Aq,Zf,e];rfl
 exact⟨by simp,rfl,rfl,by simp only [Tryz.f214,Aq,Zf,e]<;>rfl⟩
variable {i:Nat}
theorem dY.Y0 {s:a6} (h:dY A M y) (hi:M[i]?=some s):
 ∃p q1 q2,aW af 102 y (.int .i64 i)= .ok p∧ak af 164 p 1= .ok q1∧ak af 164 p 2= .ok q2∧∀A',Kp A A'→ai af A'.get 4 q1= .ok (.bool s.fin)∧ai af A'.get 103 q2= .ok (.int .u64 s.out):=by
 obtain⟨b,rows,h1,h2,h3⟩:=h;obtain⟨x,e1,e2⟩:=h3 i s hi;have hl:i<rows.length:=(Zl.1 e1).1;refine⟨_,_,_,aq.idx h1 fP mH hl,cR,iu,fun A' k=>?_⟩;have h1:=h1.same k.1 (k.2 b);exact⟨aq.load (tb:=af) (j:=1) h1 u4 rfl e1 rfl (by omega),aq.load (tb:=af) (j:=2) h1 eK rfl e1 rfl (by omega)⟩
def ky (p3 p4 p5 p6:Nat):List Value:=[pV p3,pV p4,pV p5,pV p6]
def tC (n:Nat):Value:=.agg ⟨[.int .u64 n,.bool true]⟩
structure TE (A:Mem) (y k:Value) (l0 p3 p4 p5 p6:Nat) (X:List Nat) (D:Mem) (r:Nat):Prop where
 kp:Kp A D
 v3:VB D 9 p3 (.var 1) [strOf []]
 v4:VB D 105 p4 (.var 2) [y,k]
 v5:VB D 309 p5 (.var 1) [.func (.yield l0) ⟨[]⟩ ⟨[]⟩]
 v6:VB D 310 p6 (.var 1) [.func (.func 213) ⟨[]⟩ ⟨ky p3 p4 p5 p6⟩]
 x:∀x,(x∈X∨x=r)→A.next≤x∧x<D.next
def TG (X:List Nat) (l0:Nat) (L:List (List UInt8×Nat)) (Q:Nat→Mem→Nat→Prop):Prop:=∀(j:Nat) (w:List UInt8) (v:Nat) (D:Mem) (r:Nat),L[j]?=some (w,v)→Q j D r→
 ∃E r',(∃g,∀M,g≤M→bc af (exec af M) (.round l0 [strOf w,tC v]) D= .ok (.val (.bool (decide (j+1<L.length))) E))∧Q (j+1) E r'∧pj X D r E r'
noncomputable def jH:Code:=qaZ.body.getD .skip
noncomputable def vn:Code:=sub jH [1,1,1,1,0,1,0,0]
noncomputable def vo:Code:=sub jH [1,1,1,1,0,1,0,1]
theorem QK:qaZ.body=some (.seq (sub jH [0]) (.seq (sub jH [1,0]) (.seq (sub jH [1,1,0]) (.seq (sub jH [1,1,1,0]) (.seq (.seq (sub jH [1,1,1,1,0,0]) (.block 0 (.rangeFunc (.tmp 52) #[53,54] vn vo))) (sub jH [1,1,1,1,1])))))):=by kernel_rfl
noncomputable def eD (t:T Value) (d:Nat):eY:=ig t 69 [53,54] vn vo d
theorem Jt:aV af 257= .ok 2:=by kernel_rfl
theorem Yt:aV af 4= .ok 1:=by kernel_rfl
theorem Vt:∃d,af.bp 309=some d∧cH d=false:=bg (t:=309) (p:=false) (by kernel_rfl)
theorem PN:∃d,af.bp 310=some d∧cH d=false:=bg (t:=310) (p:=false) (by kernel_rfl)
theorem TB:bO af 305= .ok (.agg ⟨[.int .i64 (0:Nat),.int .u64 (0:Nat)]⟩):=by kernel_rfl
theorem Xm:aV af 305= .ok 2:=by kernel_rfl
theorem Nj:ak af 305 (pw b 0) 0= .ok (pw b 0):=by kernel_rfl
theorem Nk:ak af 305 (pw b 0) 1= .ok (pw b 1):=by kernel_rfl
theorem HA (d p3 p4 p5 p6:Nat):bP (d+2) (.func (.func 213) ⟨[]⟩ ⟨ky p3 p4 p5 p6⟩) (.func (.func 213) ⟨[]⟩ ⟨ky p3 p4 p5 p6⟩)=true:=by simp [bP,zj,ky,pV,zi,td]
theorem LG (p3 p4 p5 p6:Nat):bP 100 (.func (.func 213) ⟨[]⟩ ⟨ky p3 p4 p5 p6⟩) (.func (.func 213) ⟨[]⟩ ⟨ky p3 p4 p5 p6⟩)=true:=HA 98 p3 p4 p5 p6
theorem HC (d l:Nat):bP (d+1) (.func (.yield l) ⟨[]⟩ ⟨[]⟩) (.func (.yield l) ⟨[]⟩ ⟨[]⟩)=true:=by simp [bP,zj]
theorem LJ (l:Nat):bP 100 (.func (.yield l) ⟨[]⟩ ⟨[]⟩) (.func (.yield l) ⟨[]⟩ ⟨[]⟩)=true:=HC 99 l
theorem LH (n:Nat):bP 100 (.int .i64 n) (.int .i64 n)=true:=dP .i64 n rfl
def jK (M:List a6) (s:a6) (jj:Nat):Nat:=((s.arcs.take jj).flatMap (je M)).length
theorem rZ {s:a6} {jj:Nat} {a:cL} (h:s.arcs[jj]?=some a):jK M s (jj+1)=jK M s jj+(ws M a.to).length:=by
 obtain⟨hj,rfl⟩:=Zl.1 h;unfold jK;rw [Zs hj,qaH,Zo];simp [je]
theorem MP {s:a6} {jj t:Nat} {a:cL} {x:List UInt8×Nat} (h:s.arcs[jj]?=some a) (hx:(ws M a.to)[t]?=some x):(s.arcs.flatMap (je M))[jK M s jj+t]?=some (a.byte::x.1,a.out+x.2):=by
 obtain⟨hj,rfl⟩:=Zl.1 h;have e:s.arcs=s.arcs.take jj++s.arcs[jj]::s.arcs.drop (jj+1):=by rw [←qad hj,qcJ]
 have e2:s.arcs.flatMap (je M)=(s.arcs.take jj).flatMap (je M)++(je M s.arcs[jj]++(s.arcs.drop (jj+1)).flatMap (je M)):=by
  conv=>lhs;rw [e]
  rw [qaH,qaa]
 have ht:=(Zl.1 hx).1;rw [e2];unfold jK;rw [ZN (by omega),qcq,ZU (by unfold je;rw [Zp];exact ht)];unfold je;rw [ZH,hx];rfl
theorem HV (g:de M):∀i,i<M.length→0<(ws M i).length:=by
 intro i
 induction i using qbL with
 |ind i ih=>
  intro hi;have hs:M[i]?=some M[i]:=Zi hi;rw [nP g hs];obtain⟨-,-,k3,k4,-⟩:=g i _ hs;generalize M[i]=s at*;rw [Zo];rcases k4 with k4|k4
  ·rw [if_pos k4,qae];omega
  ·obtain⟨a,l,e⟩:=List.exists_cons_of_ne_nil k4;have ha:a∈s.arcs:=by rw [e];exact Zy
   have:=ih a.to (k3 a ha) (Nat.lt_trans (k3 a ha) hi);rw [e,qaa,Zo];unfold je;rw [Zp];omega
def TI (M:List a6) (s:a6) (t:T Value) (mk lp p10:Nat) (X1:List Nat) (J:Mem) (r1:Nat) (b:Bool) (j1:Nat) (Q:Nat→Mem→Nat→Prop) (jj:Nat) (D:Mem) (r:Nat):Prop:=
 Q (j1+jK M s jj) D r∧pj X1 J r1 D r∧VB D 4 p10 (.var 1) [.bool false]∧D.get lp=some (.loop (if jj<s.arcs.length∨b=true then eD t mk else {eD t mk with state:=.done,pending:=some .ret}))
variable {t:T Value} {mk:Nat} {w:List UInt8}
theorem OH {J:Mem} {k:Value} {l0 p3 p4 p5 p6 P0 q8 lp r1:Nat} {L:List (List UInt8×Nat)} {Q:Nat→Mem→Nat→Prop} {s:a6} {j1 v:Nat} {b:Bool} (hs:M[i]?=some s) (g:de M) (hL:∀x∈L,x.1.length<1000∧x.2<18446744073709551616)
 (hK:∀j D E r,Q j D r→D.next≤E.next→(∀z,(z<P0∨z=r)→E.get z=D.get z)→Q j E r) (hC:∀j D r,Q j D r→TE A y k l0 p3 p4 p5 p6 X D r∧P0≤D.next∧∀x∈X,x<P0)
 (ih:∀a∈s.arcs,∀w v j D r0,Q j D r0→(∀t x,(ws M a.to)[t]?=some x→L[j+t]?=some (w++x.1,v+x.2))→
  ∃b E,bJ af 213 ([.int .i64 a.to,strOf w,tC v]++ky p3 p4 p5 p6) D b E∧b= .bool (decide (j+(ws M a.to).length<L.length))∧∃r,Q (j+(ws M a.to).length) E r∧pj X D r0 E r)
 (hb:b=decide (j1+jK M s s.arcs.length<L.length)) (hle:j1+jK M s s.arcs.length≤L.length)
 (hW:∀t x,(s.arcs.flatMap (je M))[t]?=some x→L[j1+t]?=some (w++x.1,v+x.2))
 (v8:VB J 9 q8 (.var 1) [strOf w]) (v9:VB J 257 (q8+1) (.var 2) [.int .u64 v,.bool true]) (v10:VB J 4 (q8+2) (.var 1) [.bool false])
 (hP:P0≤q8∧q8+2<mk∧lp=mk+1∧lp<J.next∧(r1<q8∨q8+2<r1)∧r1<mk)
 (hsl:Sl t [(6,pV p6),(8,pV q8),(9,pV (q8+1)),(10,pV (q8+2))]):
 Mk (lp::(q8+2)::X) lp s b (TI M s t mk lp (q8+2) (lp::(q8+2)::X) J r1 b j1 Q):=by
 rintro jj a D r hj ⟨hQ,hF,w10,hLp⟩;obtain⟨g6,g8,g9,g10,-⟩:=hsl;obtain⟨hP1,hP2,rfl,hP4,hP5,hP6⟩:=hP;obtain⟨hjl,hja⟩:=Zl.1 hj;have ham:a∈s.arcs:=ZM hj;have hil:=(Zl.1 hs).1;have hto:=(g i s hs).2.2.1 a ham;obtain⟨hc,hPD,hXP⟩:=hC _ _ _ hQ;rw [if_pos (.inl hjl)] at hLp;have hrr:r=r1∨J.next≤r:=hF.2.1
 have hXlt:∀z,P0≤z→z∉X:=fun z hz h=>by have:=hXP z h;omega
 have fJ:∀z,z<J.next→P0≤z→z≠mk+1→z≠q8+2→z≠r1→D.get z=J.get z:=fun z hz h0 h1 h2 h3=>hF.2.2 z hz (by simp [h1,h2,hXlt z h0]) h3
 have hDn:J.next≤D.next:=hF.1
 have hpos:=HV g a.to (by omega);have hwa:∀t x,(ws M a.to)[t]?=some x→L[j1+jK M s jj+t]?=some (w++[a.byte]++x.1,v+a.out+x.2):=fun t x hx=>by
  have:=hW _ _ (MP hj hx);rw [qa3,this];simp [qa3]
 have hL0:=hwa 0 _ (Zi hpos);obtain⟨hl1,hl2⟩:=hL _ (ZM hL0);simp only [Zo,Zu,ZG] at hl1;have sE:aT af (D.alloc (aa 305 [.int .i64 (0:Nat),.int .u64 (0:Nat)])) 305 (.pointer (some ⟨D.next,0,none⟩)) (rJ a)= .ok (D.alloc (aa 305 [.int .i64 a.to,.int .u64 a.out])):=a_ Xm rfl rfl (by simp) (by simp [aH]);have kE:=Kp.alloc D (aa 305 [.int .i64 a.to,.int .u64 a.out]);have vE:=az D 305 [.int .i64 a.to,.int .u64 a.out];have nE:(D.alloc (aa 305 [.int .i64 a.to,.int .u64 a.out])).next=D.next+1:=ae _ _
 generalize D.alloc (aa 305 [.int .i64 a.to,.int .u64 a.out])=E at sE kE vE nE;have hLE:E.get (mk+1)=some (.loop (eD t mk)):=by rw [kE.2 _ (by omega)];exact hLp
 generalize hF1:E.set (mk+1) (.loop {eD t mk with state:=.busy})=F;have nF:F.next=E.next:=by rw [←hF1];exact aO _ _ _
 have fF:∀z,z≠mk+1→F.get z=E.get z:=fun z hz=>by rw [←hF1,aC,if_neg hz]
 have hLF:F.get (mk+1)=some (.loop {eD t mk with state:=.busy}):=by rw [←hF1,aC,if_pos rfl]
 have fFD:∀z,z<D.next→z≠mk+1→F.get z=D.get z:=fun z hz h=>by rw [fF z h,kE.2 z hz]
 have kG:=Kp.alloc F (aa 5 [.int .u8 (a.byte.toNat:Nat)]);have c1:=JH (D:=F) (c:=a.byte);have gG:=ay F (aa 5 [.int .u8 (a.byte.toNat:Nat)]);generalize hG:F.alloc (aa 5 [.int .u8 (a.byte.toNat:Nat)])=G at kG c1 gG;have hd:∀A:Mem,eO (qcW (fun x:Nat×Nat=>x.2) [(5,F.next)]) A=A.set F.next .dead:=fun _=>rfl
 have put:∀H:Mem,H.get=G.get→H.next=G.next→∃G',fT G.get (qcW (fun x:Nat×Nat=>x.2) [(5,F.next)]) (H.set F.next .dead)= .ok G'∧G'.get=G.get∧G'.next=G.next:=fun H hH hn=>by
  refine⟨(H.set F.next .dead).set F.next (aa 5 [.int .u8 (a.byte.toNat:Nat)]),?_,funext fun z=>?_,?_⟩
  ·show(match G.get F.next with|some o=>fT G.get [] ((H.set F.next .dead).set F.next o)|none=>.no 313)=_;rw [gG];rfl
  ·rw [aC];split
   ·rename_i h;rw [h,gG]
   ·rename_i h;rw [aC,if_neg h,hH]
  ·rw [aO,aO,hn]
 obtain⟨G2,bk1,e2,n2⟩:=put G rfl rfl;have kFG2:Kp F G2:=⟨by rw [n2];exact kG.1,fun z hz=>by rw [e2];exact kG.2 z hz⟩;have nG2:F.next≤G2.next:=kFG2.1
 have fG2:∀z,z<D.next→z≠mk+1→G2.get z=D.get z:=fun z hz h=>by rw [kFG2.2 z (by omega),fFD z hz h]
 have hrD:=(hc.x r (.inr rfl)).2;have hQG:Q (j1+jK M s jj) G2 r:=hK _ _ _ _ hQ (by omega) fun z hz=>fG2 z (by omega) (by omega)
 obtain⟨u,H,⟨gb,hgb⟩,hu,r',hQH,hFH⟩:=ih a ham (w++[a.byte]) (v+a.out) _ G2 r hQG hwa;rw [qa3,←rZ hj] at hQH hu;have hub:decide (j1+jK M s (jj+1)<L.length)=(b||decide (jj+1<s.arcs.length)):=by
  rcases ZS (jj+1) s.arcs.length with hlt|hge
  ·rw [decide_eq_true hlt,Bool.or_true];have hj2:s.arcs[jj+1]?=some s.arcs[jj+1]:=Zi hlt;have hp2:=HV g s.arcs[jj+1].to (by have:=(g i s hs).2.2.1 _ (ZO hlt);omega);have h2:=hW _ _ (MP hj2 (Zi hp2));have:=(Zl.1 h2).1;exact decide_eq_true (by omega)
  ·rw [decide_eq_false (show¬jj+1<s.arcs.length by omega),Bool.or_false,hb,show jj+1=s.arcs.length by omega]
 rw [hub] at hu;subst hu;have l8:∀N:Mem,(∀z,z<D.next→z≠mk+1→N.get z=D.get z)→ai af N.get 9 (.pointer (some ⟨q8,0,none⟩))= .ok (strOf w):=fun N h=>aU u9 rfl (v8.2.same (by rw [h q8 (by omega) (by omega),fJ q8 (by omega) hP1 (by omega) (by omega) (by omega)])) rfl
 have l9:∀N:Mem,(∀z,z<D.next→z≠mk+1→N.get z=D.get z)→ai af N.get 257 (.pointer (some ⟨q8+1,0,none⟩))= .ok (.agg ⟨[.int .u64 v,.bool true]⟩):=fun N h=>by
  obtain⟨d,hd1,hd2⟩:=bg (t:=257) (p:=true) (by kernel_rfl);exact aI hd1 hd2 (l:=[.int .u64 v,.bool true]) Jt (v9.2.same (by rw [h _ (by omega) (by omega),fJ _ (by omega) (by omega) (by omega) (by omega) (by omega)]))
 have l6:∀N:Mem,(∀z,z<D.next→z≠mk+1→N.get z=D.get z)→ai af N.get 310 (.pointer (some ⟨p6,0,none⟩))= .ok (.func (.func 213) ⟨[]⟩ ⟨ky p3 p4 p5 p6⟩):=fun N h=>by
  obtain⟨d,hd1,hd2⟩:=PN;have hp6:p6≠mk+1:=fun e=>by
   have h6:=hc.v6.2;obtain⟨cs,h6,-⟩:=h6;rw [e,hLp] at h6;cases h6
  exact aU hd1 hd2 (hc.v6.2.same (h p6 hc.v6.1 hp6)) rfl
 have fG:∀z,z<D.next→z≠mk+1→G.get z=D.get z:=fun z hz h=>by rw [kG.2 z (by omega),fFD z hz h]
 have vG:∀N:Mem,(∀z,z<E.next→z≠mk+1→N.get z=E.get z)→ai af N.get 3 (.pointer (some ⟨D.next,0,none⟩))= .ok (.int .i64 a.to)∧ai af N.get 103 (.pointer (some ⟨D.next,1,none⟩))= .ok (.int .u64 a.out):=fun N h=>by
  have:=vE.2.same (h D.next (by omega) (by omega));exact⟨aU u3 rfl this rfl,aU eK rfl this rfl⟩
 have x6:=l6 F fFD;have x6':=l6 G fG;have x8:=l8 F fFD;have x8':=l8 G fG;have x9:=l9 G fG;obtain⟨x0,x1⟩:=vG F fun z hz h=>fF z h
 obtain⟨x0',x1'⟩:=vG G fun z hz h=>by rw [kG.2 z (by omega),fF z h]
 have ka:=fun ih A=>Rk (ih:=ih) (A:=A) (n:=v) (m:=a.out) (f:=true) (by omega)
 have sc:=LG p3 p4 p5 p6;have si:=LH a.to;have s1:db .add w [a.byte]= .ok (strOf (w++[a.byte])):=cat (by simp;omega);have hlH:H.get (mk+1)=some (.loop {eD t mk with state:=.busy}):=by
  rw [hFH.2.2 (mk+1) (by omega) (hXlt _ (by omega)) (by omega),kFG2.2 _ (by omega)];exact hLF
 simp only [pV] at g6 g8 g9 g10;simp only [ky,pV,tC,Z5,qac] at hgb x6 x6' sc;have fin:∀N:Mem,N.next=H.next→(∀z,z≠mk+1→z≠q8+2→N.get z=H.get z)→VB N 4 (q8+2) (.var 1) [.bool false]→N.get (mk+1)=some (.loop (if jj+1<s.arcs.length∨b=true then eD t mk else {eD t mk with state:=.done,pending:=some .ret}))→
  TI M s t mk (mk+1) (q8+2) ((mk+1)::(q8+2)::X) J r1 b j1 Q (jj+1) N r'∧pj ((mk+1)::(q8+2)::X) D r N r':=fun N hn hf h10 hlp=>by
  have hcH:=(hC _ _ _ hQH).1;have hrH:=(hcH.x r' (.inr rfl)).2;have hr2:r'=r∨G2.next≤r':=hFH.2.1
  have hfr:pj ((mk+1)::(q8+2)::X) D r N r':=⟨by have:=hFH.1;omega,by omega,fun z hz hx hr=>by
   simp only [ZC,not_or] at hx;rw [hf z hx.1 hx.2.1,hFH.2.2 z (by omega) hx.2.2 hr,fG2 z hz hx.1]⟩
  exact⟨⟨hK _ _ _ _ hQH (by omega) fun z hz=>hf z (by omega) (by omega),hF.trans hfr,h10,hlp⟩,hfr⟩
 have w10H:VB H 4 (q8+2) (.var 1) [.bool false]:=⟨by have:=hFH.1;omega,w10.2.same (by rw [hFH.2.2 _ (by omega) (hXlt _ (by omega)) (by omega),fG2 _ (by omega) (by omega)])⟩;cases hu:(b||decide (jj+1<s.arcs.length)) with
 |true=>
  rw [hu] at hgb;have hst:jj+1<s.arcs.length∨b=true:=by
   simp only [qdz,decide_eq_true_eq] at hu;exact hu.symm
  have hq:∃C,(∃g,∀N,g≤N→bc af (exec af N) (.round (mk+1) [.int .u8 (a.byte.toNat:Nat),rJ a]) D= .ok (.val (.bool true) C))∧C=H.set (mk+1) (.loop (eD t mk)):=by
   refine iF hLp (t:=(t.set 53 (.int .u8 (a.byte.toNat:Nat))).set 54 (rJ a)) rfl ?_;show W af vn ⟨_,69,[],D,some (mk+1)⟩ _;apply W.run 20
   ·intro M;simp (disch:=omega) only [vn,jH,qaZ,Aq,Zf,TB,aj,sE];rfl
   refine⟨rfl,_,hLE,rfl,?_⟩;show W af vo ⟨_,69,[],E.set (mk+1) (.loop {eD t mk with state:=.busy}),some (mk+1)⟩ _;rw [hF1];apply W.bf (gb) 20
   ·intro M hM;simp (config:={maxSteps:=4000000}) (disch:=first|decide+kernel|omega|simp only [Wq,Zf]) only [vo,jH,qaZ,Aq,Zj,reduceIte,Zf,Zg,g6,g8,g9,x6,x6',x8,x8',x9,x0,x1,x0',x1',Nj,Nk,DO,hG,UU,yW,oS,c1,hd,bk1,e2,ka,s1,sc,si,hgb,Fq,au [(0,11),(2,11),(3,11),(5,11),(6,11)]];rfl
   exact⟨rfl,rfl,_,hlH,rfl⟩
  obtain⟨C,hc,rfl⟩:=hq;have:=fin (H.set (mk+1) (.loop (eD t mk))) (aO _ _ _) (fun z h1 _=>by rw [aC,if_neg h1]) ⟨by rw [aO];exact w10H.1,w10H.2.same (by rw [aC,if_neg (by omega)])⟩ (by rw [aC,if_pos rfl,if_pos hst]);exact⟨_,r',hc,this.1,this.2⟩
 |false=>
  rw [hu] at hgb;have hst:¬(jj+1<s.arcs.length∨b=true):=by
   simp only [qbH,decide_eq_false_iff_not] at hu;rintro(h|h)
   ·exact hu.2 h
   ·rw [h] at hu;cases hu.1
  obtain⟨I,sI,vI,nI,fI⟩:=aY (tb:=af) (t:=4) (o:=0) (v:=.bool false) Yt w10H.2 (by simp) rfl rfl;have hlI:I.get (mk+1)=some (.loop {eD t mk with state:=.busy}):=by rw [fI _ (by omega)];exact hlH
  have hq:∃C,(∃g,∀N,g≤N→bc af (exec af N) (.round (mk+1) [.int .u8 (a.byte.toNat:Nat),rJ a]) D= .ok (.val (.bool false) C))∧C=I.set (mk+1) (.loop {eD t mk with state:=.done,pending:=some .ret}):=by
   refine Bq hLp (t:=(t.set 53 (.int .u8 (a.byte.toNat:Nat))).set 54 (rJ a)) rfl ?_;show W af vn ⟨_,69,[],D,some (mk+1)⟩ _;apply W.run 20
   ·intro M;simp (disch:=omega) only [vn,jH,qaZ,Aq,Zf,TB,aj,sE];rfl
   refine⟨rfl,_,hLE,rfl,?_⟩;show W af vo ⟨_,69,[],E.set (mk+1) (.loop {eD t mk with state:=.busy}),some (mk+1)⟩ _;rw [hF1];apply W.bf (gb) 20
   ·intro M hM;simp (config:={maxSteps:=4000000}) (disch:=first|decide+kernel|omega|simp only [Wq,Zf]) only [vo,jH,qaZ,Aq,Zj,reduceIte,Zf,Zg,g6,g8,g9,g10,x6,x6',x8,x8',x9,x0,x1,x0',x1',Nj,Nk,DO,hG,UU,yW,oS,c1,hd,bk1,e2,ka,s1,sc,si,hgb,sI,Fq,au [(0,11),(2,11),(3,11),(5,11),(6,11)]];rfl
   exact⟨rfl,rfl,_,hlI,rfl⟩
  obtain⟨C,hc,rfl⟩:=hq;have:=fin (I.set (mk+1) (.loop {eD t mk with state:=.done,pending:=some .ret})) (by rw [aO];exact nI) (fun z h1 h2=>by rw [aC,if_neg h1,fI z h2]) ⟨by rw [aO,nI];exact w10H.1,dj.same (A:=I) vI (by rw [aC,if_neg (by omega)])⟩ (by rw [aC,if_pos rfl,if_neg hst]);exact⟨_,r',hc,this.1,this.2⟩
theorem sf:ak af 105 (pw b 0) 0= .ok (pw b 0):=by kernel_rfl
def kM (X:List Nat) (L:List (List UInt8×Nat)) (Q:Nat→Mem→Nat→Prop) (E3:Mem) (r0 n:Nat) (e:Ex) (s:St):Prop:=
 (e= .nrm∨e= .ret)∧∃A' vs,fc s.d s.m= .ok A'∧fj af s.t A'.get qaZ.results.toList= .ok vs∧(oneOf vs= .bool (decide (n<L.length))∧∃r,Q n A' r∧pj X E3 r0 A' r)
theorem JK {E0 E3:Mem} {k:Value} {l0 p3 p4 p5 p6 P0 r0 r1:Nat} {L:List (List UInt8×Nat)} {Q:Nat→Mem→Nat→Prop} {s:a6} {j1 v b8:Nat} (hS:dY A M y) (hs:M[i]?=some s) (g:de M) (hl:M.length<1000000) (hL:∀x∈L,x.1.length<1000∧x.2<18446744073709551616)
 (hK:∀j D E r,Q j D r→D.next≤E.next→(∀z,(z<P0∨z=r)→E.get z=D.get z)→Q j E r) (hC:∀j D r,Q j D r→TE A y k l0 p3 p4 p5 p6 X D r∧P0≤D.next∧∀x∈X,x<P0)
 (ih:∀a∈s.arcs,∀w v j D r0,Q j D r0→(∀t x,(ws M a.to)[t]?=some x→L[j+t]?=some (w++x.1,v+x.2))→
  ∃b E,bJ af 213 ([.int .i64 a.to,strOf w,tC v]++ky p3 p4 p5 p6) D b E∧b= .bool (decide (j+(ws M a.to).length<L.length))∧∃r,Q (j+(ws M a.to).length) E r∧pj X D r0 E r)
 (hne:s.arcs≠ []∨j1+jK M s s.arcs.length<L.length) (hle:j1+jK M s s.arcs.length≤L.length)
 (hW:∀t x,(s.arcs.flatMap (je M))[t]?=some x→L[j1+t]?=some (w++x.1,v+x.2))
 (v8:VB E3 9 b8 (.var 1) [strOf w]) (v9:VB E3 257 (b8+1) (.var 2) [.int .u64 v,.bool true]) (v10:VB E3 4 (b8+2) (.var 1) [.bool false])
 (hP:P0≤b8∧b8+2<E3.next∧r0<b8∧E0.next=b8∧A.next≤b8) (hk0:Kp E0 E3) (hQ:Q j1 F r1) (hF:pj X E3 r0 F r1)
 (hsl:Sl t [(0,.int .i64 i),(4,pV p4),(6,pV p6),(8,pV b8),(9,pV (b8+1)),(10,pV (b8+2))]):
 W af (.seq (.seq (sub jH [1,1,1,1,0,0]) (.block 0 (.rangeFunc (.tmp 52) #[53,54] vn vo))) (sub jH [1,1,1,1,1])) ⟨t,69,[],F,none⟩ (kM X L Q E0 r0 (j1+jK M s s.arcs.length)):=by
 obtain⟨h0,h4,h6,h8,h9,h10,-⟩:=hsl;obtain⟨hP1,hP2,hP3,hP4,hP5⟩:=hP;obtain⟨hc,hPF,hXP⟩:=hC _ _ _ hQ;obtain⟨k1,k2,k3,k4,-⟩:=g i s hs;have hfew:=kX (g i s hs);have hXlt:∀z,P0≤z→z∉X:=fun z hz h=>by have:=hXP z h;omega
 have nF:=hF.1;have hr1:r1=r0∨E3.next≤r1:=hF.2.1
 have fF:∀z,z<E3.next→P0≤z→z≠r0→F.get z=E3.get z:=fun z hz h0 h=>hF.2.2 z hz (hXlt z h0) h
 obtain⟨d,hd1,hd2⟩:=Ss;have ld:ai af F.get 105 (pw p4 0)= .ok (.agg ⟨[y,k]⟩):=aI hd1 hd2 (l:=[y,k]) dz hc.v4.2;obtain⟨gw,hgw⟩:=zh (A:=F) (y:=y) (k:=k) (n:=i);have x1:=(az F 105 [y,k]).kp (Kp.alloc _ (aa 3 [.int .i64 i]));have x2:=az (F.alloc (aa 105 [y,k])) 3 [.int .i64 i];have y1:(F.alloc (aa 105 [y,k])).next=F.next+1:=ae _ _
 have y2:((F.alloc (aa 105 [y,k])).alloc (aa 3 [.int .i64 i])).next=F.next+2:=by rw [ae,y1]
 have kH:=(Kp.alloc F (aa 105 [y,k])).trans (Kp.alloc _ (aa 3 [.int .i64 i]));rw [y1] at x2;generalize (F.alloc (aa 105 [y,k])).alloc (aa 3 [.int .i64 i])=H at hgw x1 x2 y2 kH;simp only [pV] at h4 h6 h8 h9 h10 hgw;apply W.seq;apply W.qG (gw)
 ·intro M hM;simp (disch:=omega) only [jH,qaZ,Aq,Zf,h0,h4,ld,hgw];rfl
 apply W.block;generalize ht0:T.set _ _ _=t0;have hsl:Sl t0 [(6,pV p6),(8,pV b8),(9,pV (b8+1)),(10,pV (b8+2)),(52,.func (.func 233) ⟨[]⟩ ⟨[pV F.next,pV (F.next+1)]⟩)]:=by
  rw [←ht0];simp only [Sq,Zf,Zg,h6,h8,h9,h10,pV]
 clear ht0;obtain⟨h6,h8,h9,h10,h52,-⟩:=hsl;have kJ:=(Kp.alloc H .defd).trans (Kp.alloc (H.alloc .defd) (.loop (eD t0 H.next)));have nJ1:(H.alloc .defd).next=H.next+1:=ae _ _
 have nJ:((H.alloc .defd).alloc (.loop (eD t0 H.next))).next=H.next+2:=by rw [ae,nJ1]
 have jL:((H.alloc .defd).alloc (.loop (eD t0 H.next))).get (H.next+1)=some (.loop (eD t0 H.next)):=by have:=ay (H.alloc .defd) (.loop (eD t0 H.next));rwa [nJ1] at this
 have jM:((H.alloc .defd).alloc (.loop (eD t0 H.next))).get H.next=some .defd:=by rw [(Kp.alloc (H.alloc .defd) _).2 _ (by omega)];exact ay H .defd
 generalize hJ:(H.alloc .defd).alloc (.loop (eD t0 H.next))=J at kJ nJ jL jM;have kFJ:=kH.trans kJ;have toJ:∀e z k l,VB E3 e z k l→P0≤z→z≠r0→VB J e z k l:=fun e z k l h h0 h1=>VB.kp (A:=F) ⟨by have:=h.1;omega,h.2.same (fF z h.1 h0 h1)⟩ kFJ
 have hcr:=hc.x r1 (.inr rfl);have hKp:=hc.kp.1;have hQJ:Q j1 J r1:=hK _ _ _ _ hQ (by omega) fun z hz=>kFJ.2 z (by omega)
 have hI:TI M s t0 H.next (H.next+1) (b8+2) ((H.next+1)::(b8+2)::X) J r1 (decide (j1+jK M s s.arcs.length<L.length)) j1 Q 0 J r1:=by
  refine⟨by unfold jK;simpa using hQJ,pj.kp (Kp.refl J),toJ _ _ _ _ v10 (by omega) (by omega),?_⟩;rw [if_pos]
  ·exact jL
  ·rcases hne with hne|hne
   ·exact .inl (ZW.2 hne)
   ·exact .inr (decide_eq_true hne)
 have hKp2:Kp A J:=hc.kp.trans kFJ;obtain⟨va,C,hA,r2,⟨q1,q2,q3,q4⟩,hFC⟩:=LD (A:=A) (B:=J) (q:=F.next) (lp:=H.next+1) (r0:=r1) (k:=k) (X:=(H.next+1)::(b8+2)::X) hS hs k3 k2 hfew hl hKp2 (x1.kp kJ) (x2.kp kJ)
  (fun x hx=>by
   have h1:x=H.next+1∨x=b8+2∨x∈X∨x=r1:=by
    rcases hx with hx|hx
    ·simp only [ZC] at hx;rcases hx with hx|hx|hx
     ·exact .inl hx
     ·exact .inr (.inl hx)
     ·exact .inr (.inr (.inl hx))
    ·exact .inr (.inr (.inr hx))
   rcases h1 with h1|h1|h1|h1
   ·omega
   ·omega
   ·have q1:=(hc.x x (.inl h1)).1;have q2:=hXP x h1;exact⟨by omega,by omega,by omega,by omega⟩
   ·omega)
  (fun jj D E r hq hk=>by
   obtain⟨a1,a2,a3,a4⟩:=hq;obtain⟨b1,b2,b3⟩:=hC _ _ _ a1;have:=(b1.x r (.inr rfl)).2;exact⟨hK _ _ _ _ a1 hk.1 fun z hz=>hk.2 z (by omega),a2.trans (pj.kp hk),a3.kp hk,by rw [hk.2 _ (by have:=a2.1;omega)];exact a4⟩)
  (OH hs g hL hK hC ih rfl hle hW (toJ _ _ _ _ v8 (by omega) (by omega)) (toJ _ _ _ _ v9 (by omega) (by omega)) (toJ _ _ _ _ v10 (by omega) (by omega)) ⟨hP1,by omega,rfl,by omega,by omega,by omega⟩ ⟨h6,h8,h9,h10,trivial⟩) hI
 have hans:bJ af 233 ([]++[.func (.yield (H.next+1)) ⟨[]⟩ ⟨[]⟩]++[pV F.next,pV (F.next+1)]) ((H.alloc .defd).alloc (.loop (ig t0 69 [53,54] vn vo H.next))) va C:=by
  show bJ af 233 _ ((H.alloc .defd).alloc (.loop (eD t0 H.next))) va C;rw [hJ];exact hA
 have hev:ev t0 (.tmp 52)= .ok (.func (.func 233) ⟨[]⟩ ⟨[pV F.next,pV (F.next+1)]⟩):=by simp only [ev,h52]
 have hr2:r2=r1∨J.next≤r2:=hFC.2.1
 have nC:=hFC.1;have mC:C.get H.next=some .defd:=by rw [hFC.2.2 _ (by omega) (by simp only [ZC,not_or];exact⟨by omega,by omega,hXlt _ (by omega)⟩) (by omega),jM]
 have hcC:=(hC _ _ _ q1).1;have hrC:=(hcC.x r2 (.inr rfl)).2;have fin:∀N:Mem,N.next=C.next→(∀z,z≠H.next→z≠H.next+1→z≠b8+2→N.get z=C.get z)→Q (j1+jK M s s.arcs.length) N r2∧pj X E0 r0 N r2:=fun N hn hf=>by
  refine⟨hK _ _ _ _ q1 (by omega) fun z hz=>hf z (by omega) (by omega) (by omega),by have:=hk0.1;omega,by have:=hk0.1;omega,fun z hz hx hr=>?_⟩;have hk01:=hk0.1;rw [hf z (by omega) (by omega) (by omega),hFC.2.2 z (by omega) (by simp only [ZC,not_or];exact⟨by omega,by omega,hx⟩) (by omega),kFJ.2 z (by omega),hF.2.2 z (by omega) hx hr,hk0.2 z hz]
 generalize hKm:C.set (H.next+1) (.loop {(if s.arcs.length<s.arcs.length∨decide (j1+jK M s s.arcs.length<L.length)=true then eD t0 H.next else {eD t0 H.next with state:=.done,pending:=some .ret}) with state:=.exhausted})=Km;have nKm:Km.next=C.next:=by rw [←hKm];exact aO _ _ _
 have fKm:∀z,z≠H.next+1→Km.get z=C.get z:=fun z hz=>by rw [←hKm,aC,if_neg hz]
 have mK:Km.get H.next=some .defd:=by rw [fKm _ (by omega)];exact mC
 have vK:VB Km 4 (b8+2) (.var 1) [.bool false]:=⟨by rw [nKm];exact q3.1,q3.2.same (fKm _ (by omega))⟩;simp only [pV] at h10;by_cases hb:j1+jK M s s.arcs.length<L.length
 ·rw [if_pos (.inr (decide_eq_true hb))] at q4 hKm;refine W.yY (fid:=233) (first:=[]) (capt:=[pV F.next,pV (F.next+1)]) (v:=va) (A':=C) (r:=eD t0 H.next) (e:=.nrm) hev hans q4 (by simp [eD,ig]) (.inl ⟨rfl,rfl⟩) ?_;rw [hKm];obtain⟨I,sI,vI,nI,fI⟩:=aY (tb:=af) (t:=4) (o:=0) (v:=.bool true) Yt vK.2 (by simp) rfl rfl;show W af (sub jH [1,1,1,1,1]) _ _;apply W.run 20
  ·intro M;simp only [jH,qaZ,Aq,Zf,h10,sI];rfl
  obtain⟨N,t1,t2,t3⟩:=eP [H.next] I (by simp) (fun d hd=>by
   rw [Z9] at hd;rw [hd,fI _ (by omega)];exact mK)
  have lN:ai af N.get 4 (pw (b8+2) 0)= .ok (.bool true):=aU u4 rfl (vI.same (t3 _ (by simp;omega))) rfl;obtain⟨f1,f2⟩:=fin N (by rw [t2,nI,nKm]) (fun z h1 h2 h3=>by rw [t3 z (by simp [h1]),fI z h3,fKm z h2]);show kM _ _ _ _ _ _ _ _;unfold kM;rw [decide_eq_true hb];exact⟨.inr rfl,N,_,t1,(by simp only [qaZ,Aq,Zf,h10,lN]<;>rfl),rfl,r2,f1,f2⟩
 ·rw [if_neg (by simp [hb])] at q4 hKm;refine W.yY (fid:=233) (first:=[]) (capt:=[pV F.next,pV (F.next+1)]) (v:=va) (A':=C) (r:={eD t0 H.next with state:=.done,pending:=some .ret}) (e:=.ret) hev hans q4 (by simp) (.inr ⟨rfl,rfl⟩) ?_;rw [hKm];obtain⟨N,t1,t2,t3⟩:=eP [H.next] Km (by simp) (fun d hd=>by
   rw [Z9] at hd;rw [hd];exact mK)
  have lN:ai af N.get 4 (pw (b8+2) 0)= .ok (.bool false):=aU u4 rfl (vK.2.same (t3 _ (by simp;omega))) rfl;obtain⟨f1,f2⟩:=fin N (by rw [t2,nKm]) (fun z h1 h2 h3=>by rw [t3 z (by simp [h1]),fKm z h2]);show kM _ _ _ _ _ _ _ _;unfold kM;rw [decide_eq_false hb];exact⟨.inr rfl,N,_,t1,(by simp only [qaZ,Aq,Zf,h10,lN]<;>rfl),rfl,r2,f1,f2⟩
theorem VL:bO af 4= .ok (.bool false):=by kernel_rfl
theorem Hf {k:Value} {l0 p3 p4 p5 p6 P0:Nat} {L:List (List UInt8×Nat)} {Q:Nat→Mem→Nat→Prop} (hS:dY A M y) (g:de M) (hl:M.length<1000000) (hL:∀x∈L,x.1.length<1000∧x.2<18446744073709551616)
 (hK:∀j D E r,Q j D r→D.next≤E.next→(∀z,(z<P0∨z=r)→E.get z=D.get z)→Q j E r) (hC:∀j D r,Q j D r→TE A y k l0 p3 p4 p5 p6 X D r∧P0≤D.next∧∀x∈X,x<P0) (hE:TG X l0 L Q):
 ∀i,i<M.length→∀w v j D r0,Q j D r0→(∀t x,(ws M i)[t]?=some x→L[j+t]?=some (w++x.1,v+x.2))→
  ∃b E,bJ af 213 ([.int .i64 i,strOf w,tC v]++ky p3 p4 p5 p6) D b E∧b= .bool (decide (j+(ws M i).length<L.length))∧∃r,Q (j+(ws M i).length) E r∧pj X D r0 E r:=by
 intro i
 induction i using qbL with
 |ind i IH=>
 intro hi w v j D r0 hQ hW;obtain⟨hc,hPD,hXP⟩:=hC _ _ _ hQ;have hs:M[i]?=some M[i]:=Zi hi;generalize M[i]=s at hs;obtain⟨k1,k2,k3,k4,-⟩:=g i s hs;have ih:∀a∈s.arcs,∀w v j D r0,Q j D r0→(∀t x,(ws M a.to)[t]?=some x→L[j+t]?=some (w++x.1,v+x.2))→
  ∃b E,bJ af 213 ([.int .i64 a.to,strOf w,tC v]++ky p3 p4 p5 p6) D b E∧b= .bool (decide (j+(ws M a.to).length<L.length))∧∃r,Q (j+(ws M a.to).length) E r∧pj X D r0 E r:=fun a ha=>IH a.to (k3 a ha) (Nat.lt_trans (k3 a ha) hi)
 have hws:=nP g hs;have hcnt:jK M s s.arcs.length=(s.arcs.flatMap (je M)).length:=by unfold jK;rw [ZL]
 have hpos:=HV g i hi;have h00:=hW 0 _ (Zi hpos);have hlast:=hW ((ws M i).length-1) _ (Zi (by omega));have hjl:=(Zl.1 hlast).1;obtain⟨hw1,-⟩:=hL _ (ZM h00);simp only [Zo] at hw1;refine dQ (av Tryz.func213) QK (by rw [Tryz.ntmps213];simp [ky]) (by kernel_rfl) (by kernel_rfl) ?_;show W af _ _ (kM X L Q D r0 (j+(ws M i).length));generalize hb8:D.next=b8
 have n1:(D.alloc (aa 9 [strOf w])).next=b8+1:=by rw [ae,hb8]
 have n2:((D.alloc (aa 9 [strOf w])).alloc (aa 257 [.int .u64 v,.bool true])).next=b8+2:=by rw [ae,n1]
 have n3:(((D.alloc (aa 9 [strOf w])).alloc (aa 257 [.int .u64 v,.bool true])).alloc (aa 4 [.bool false])).next=b8+3:=by rw [ae,n2]
 have q1:=Kp.alloc D (aa 9 [strOf w]);have q2:=Kp.alloc (D.alloc (aa 9 [strOf w])) (aa 257 [.int .u64 v,.bool true]);have q3:=Kp.alloc ((D.alloc (aa 9 [strOf w])).alloc (aa 257 [.int .u64 v,.bool true])) (aa 4 [.bool false]);have v8:=((az D 9 [strOf w]).kp q2).kp q3;have v9:=(az (D.alloc (aa 9 [strOf w])) 257 [.int .u64 v,.bool true]).kp q3;have v10:=az ((D.alloc (aa 9 [strOf w])).alloc (aa 257 [.int .u64 v,.bool true])) 4 [.bool false];have hk:=q1.trans (q2.trans q3);rw [hb8] at v8;rw [n1] at v9;rw [n2] at v10;apply W.seq;simp only [tC,ky,pV,Z5,qac];apply W.run 20
 ·intro M;simp (disch:=omega) only [jH,qaZ,Aq,Zf,aj,lX,Gq,hb8,n1,n2,VL];rfl
 show W af _ _ _;generalize ((D.alloc (aa 9 [strOf w])).alloc (aa 257 [.int .u64 v,.bool true])).alloc (aa 4 [.bool false])=E at hk n3 v8 v9 v10;have l8:ai af E.get 9 (.pointer (some ⟨b8,0,none⟩))= .ok (strOf w):=v8.ld rfl u9 rfl;have l3:ai af E.get 9 (.pointer (some ⟨p3,0,none⟩))= .ok (strOf []):=(hc.v3.kp hk).ld rfl u9 rfl;have mn:aL af .min [3,3] [.int .i64 (w.length:Nat),.int .i64 (0:Nat)]= .ok (.int .i64 (0:Nat)):=by rw [Am.m_,Nat.min_zero]
 have sl:cP af 9 (strOf []) none (some (.int .i64 (0:Nat))) none= .ok (strOf []):=oW u9 (Zn 0);have ll1:aL af .len [9] [strOf w]= .ok (.int .i64 (w.length:Nat)):=cd u9;have ll2:aL af .len [9] [strOf []]= .ok (.int .i64 (0:Nat)):=cd u9;obtain⟨g1,hg1⟩:=OZ (A:=E) (a:=w);apply W.qG (g1)
 ·intro M hM;simp (config:={maxSteps:=4000000}) (disch:=first|decide+kernel|omega|simp only [Wq,Zf]) only [jH,qaZ,Aq,Zj,reduceIte,Zf,Zg,l8,l3,ll1,ll2,mn,sl,hg1,Fq,au []];rfl
 apply W.q
 ·intro M;simp (disch:=omega) only [jH,qaZ,Aq,Zf];rfl
 obtain⟨p,r1,r2,i1,i2,i3,i4⟩:=hS.Y0 hs;have hkE:=hc.kp.trans hk;obtain⟨m1,m2⟩:=i4 E hkE;have m3:ai af E.get 102 (.pointer (some ⟨p4,0,none⟩))= .ok y:=(hc.v4.kp hk).ld rfl fP rfl;have hQE:Q j E r0:=hK _ _ _ _ hQ hk.1 fun z hz=>hk.2 z (by have:=(hc.x r0 (.inr rfl)).2;omega)
 have hrr:=hc.x r0 (.inr rfl);have hkp:=hc.kp.1;cases hf:s.fin with
 |false=>
  rw [hf] at m1 hws;rw [if_neg (by simp),qac] at hws;rw [hws] at hW hjl⊢;rw [←hcnt] at hjl⊢;apply W.q
  ·intro M;simp (config:={maxSteps:=4000000}) (disch:=first|decide+kernel|omega|simp only [Wq,Zf]) only [jH,qaZ,Aq,Zj,reduceIte,Zf,Zg,sf,m3,i1,i2,m1,Fq,au [(13,22),(14,22)]];rfl
  refine JK (E3:=E) hS hs g hl hL hK hC ih (.inl ?_) (by omega) hW v8 v9 v10 ⟨by omega,by omega,by omega,hb8,by omega⟩ hk hQE (pj.kp (Kp.refl E)) ?_
  ·rcases k4 with k4|k4
   ·rw [hf] at k4;cases k4
   ·exact k4
  ·simp only [Sq,Zf,Zg,pV]
 |true=>
  rw [hf] at m1 hws;rw [if_pos rfl] at hws;have e0:L[j]?=some (w,v+s.out):=by
   have:=hW 0 ([],s.out) (by rw [hws];rfl);simpa using this
  have hln:j+(ws M i).length=j+1+jK M s s.arcs.length:=by rw [hws,hcnt,Zo,qae];omega
  have hW':∀t x,(s.arcs.flatMap (je M))[t]?=some x→L[j+1+t]?=some (w++x.1,v+x.2):=fun t x hx=>by
   rw [qa3];exact hW (1+t) x (by rw [hws,ZN (by simp),qae,qcq];exact hx)
  obtain⟨F,r3,⟨gy,hy⟩,hQF,hFF⟩:=hE j w (v+s.out) E r0 e0 hQE;have hv:=(hL _ (ZM e0)).2;have ka:=fun ih A=>Rk (ih:=ih) (A:=A) (n:=v) (m:=s.out) (f:=true) hv
  have ly:ai af E.get 309 (.pointer (some ⟨p5,0,none⟩))= .ok (.func (.yield l0) ⟨[]⟩ ⟨[]⟩):=by
   obtain⟨d,hd1,hd2⟩:=Vt;exact(hc.v5.kp hk).ld rfl hd1 hd2
  have ls:ai af E.get 257 (.pointer (some ⟨b8+1,0,none⟩))= .ok (.agg ⟨[.int .u64 v,.bool true]⟩):=by
   obtain⟨d,hd1,hd2⟩:=bg (t:=257) (p:=true) (by kernel_rfl);exact aI hd1 hd2 (l:=[.int .u64 v,.bool true]) Jt v9.2
  have sy:=LJ l0;have hrb:r0<b8:=by omega
  have hXlt:∀z,P0≤z→z∉X:=fun z hz h=>by have:=hXP z h;omega
  have w10:VB F 4 (b8+2) (.var 1) [.bool false]:=⟨by have:=hFF.1;omega,v10.2.same (hFF.2.2 _ (by omega) (hXlt _ (by omega)) (by omega))⟩;simp only [tC] at hy;have hjl:j+(ws M i).length≤L.length:=by omega
  rw [hln] at hjl⊢;by_cases hlt:j+1<L.length
  ·rw [decide_eq_true hlt] at hy;apply W.qG (g1+gy)
   ·intro M hM;simp (config:={maxSteps:=4000000}) (disch:=first|decide+kernel|omega|simp only [Wq,Zf]) only [jH,qaZ,Aq,Zj,reduceIte,Zf,Zg,sf,m3,i1,i2,i3,m1,m2,l8,l3,hg1,ly,ls,ka,hy,sy,Fq,au [(13,22),(14,22)]];rfl
   refine JK (E3:=E) hS hs g hl hL hK hC ih ?_ (by omega) hW' v8 v9 v10 ⟨by omega,by omega,by omega,hb8,by omega⟩ hk hQF hFF ?_
   ·by_cases ha:s.arcs=[]
    ·refine .inr ?_;rw [hcnt,ha];exact hlt
    ·exact .inl ha
   ·simp only [Sq,Zf,Zg,pV]
  ·rw [decide_eq_false hlt] at hy;obtain⟨I,sI,vI,nI,fI⟩:=aY (tb:=af) (t:=4) (o:=0) (v:=.bool false) Yt w10.2 (by simp) rfl rfl;have lI:ai af I.get 4 (.pointer (some ⟨b8+2,0,none⟩))= .ok (.bool false):=aU u4 rfl vI rfl;apply W.seq;apply W.bf (g1+gy) 20
   ·intro M hM;simp (config:={maxSteps:=4000000}) (disch:=first|decide+kernel|omega|simp only [Wq,Zf]) only [jH,qaZ,Aq,Zj,reduceIte,Zf,Zg,sf,m3,i1,i2,i3,m1,m2,l8,l3,hg1,ly,ls,ka,hy,sy,sI,Fq,au [(13,22),(14,22)]];rfl
   show kM _ _ _ _ _ _ _ _;have hz:jK M s s.arcs.length=0:=by omega
   rw [hz,Z8];unfold kM;rw [decide_eq_false hlt];have hkI:=hFF.1;refine⟨.inr rfl,I,_,rfl,(by simp only [qaZ,Aq,Zf,lI]<;>rfl),rfl,r3,hK _ _ _ _ hQF (by omega) fun z hz=>fI z ?_,⟨by omega,by have:=hFF.2.1;omega,fun z hz hx hr=>?_⟩⟩
   ·have:=(hC _ _ _ hQF).1.x r3 (.inr rfl);have:=hFF.2.1;omega
   ·rw [fI z (by omega),hFF.2.2 z (by omega) hx hr,hk.2 z hz]
end Go.Proofs.YtggndfefpbmaeaaGreatDoor.sto
namespace Go.Am
variable {tb:bL}
variable {t:T Value} {n i:Nat} {A A':Mem} {v:Value}
theorem W.U0 {f:Operand} {ps:Array Tmp} {a b:Code} {d:List Nat} {K:Ex→St→Prop} {fid:FuncId} {first capt:List Value} {r:eY}
 (hf:ev t f= .ok (.func (.func fid) ⟨first⟩ ⟨capt⟩))
 (hc:bJ tb fid (first++[.func (.yield (A.next+1)) ⟨[]⟩ ⟨[]⟩]++capt) ((A.alloc .defd).alloc (.loop (ig t n ps.toList a b A.next))) v A')
 (hr:A'.get (A.next+1)=some (.loop r)) (hst:r.state= .done) (hp:r.pending=some (.exit i))
 (k:K (.exit i) ⟨t,n,A.next::d,A'.set (A.next+1) (.loop {r with state:=.exhausted}),none⟩):W tb (.rangeFunc f ps a b) ⟨t,n,d,A,none⟩ K:=by
 obtain⟨g,hg⟩:=hc;refine⟨_,_,⟨g+1,fun m=>?_⟩,k⟩;rw [show m+(g+1)=(m+g)+1 by omega,jO];have h1:=hg (m+g) (by omega);unfold fM;simp only [hf,R.aw];have hn:(A.alloc .defd).next=A.next+1:=ae _ _
 rw [hn];have hcal:∀g':Nat→Option Ob,iL tb g' (.func (.func fid) ⟨first⟩ ⟨capt⟩) [.func (.yield (A.next+1)) ⟨[]⟩ ⟨[]⟩]= .ok (.fn fid (first++[.func (.yield (A.next+1)) ⟨[]⟩ ⟨[]⟩]++capt)):=fun _=>rfl
 rw [hcal,R.aw];unfold ig at h1;rw [h1,R.aw];simp only [hr,hp,hst];rfl
theorem Hd {l:Nat} {args:List Value} {r:eY} {Q:Mem→Prop} (hl:A.get l=some (.loop r)) (ht:setArgs r.n r.params args r.tmps= .ok t)
 (h:W tb r.assign ⟨t,r.n,[],A,some l⟩ fun e s1=>e= .nrm∧∃r1,s1.m.get l=some (.loop r1)∧r1.state= .ready∧W tb r.body ⟨s1.t,s1.n,s1.d,s1.m.set l (.loop {r1 with state:=.busy}),s1.ro⟩ fun e s2=>e= .exit i∧s2.d=[]∧∃r2,s2.m.get l=some (.loop r2)∧Q (s2.m.set l (.loop {r2 with state:=.done,pending:=some (.exit i)}))):
 ∃A',(∃g,∀M,g≤M→bc tb (exec tb M) (.round l args) A= .ok (.val (.bool false) A'))∧Q A':=by
 obtain⟨e,s1,⟨f1,h1⟩,rfl,r1,hr1,hst1,e2,s2,⟨f2,h2⟩,rfl,hd,r2,hr2,hQ⟩:=h;refine⟨_,⟨f1+f2,fun M hM=>?_⟩,hQ⟩;show ng (exec tb M) l args A=_;unfold ng;have e1:=h1 (M-f1);rw [qbf (by omega)] at e1;have e2:=h2 (M-f2);rw [qbf (by omega)] at e2;simp only [hl,ht,R.aw,e1,hr1,hst1,e2,hd,hr2]
end Go.Am
namespace Go.Proofs.YtggndfefpbmaeaaGreatDoor.sto
open Go.Am Go.Mdl Go.Sto
theorem pU:bO af 67= .ok (.agg ⟨[strOf [],.int .u32 (0:Nat),.bool false]⟩):=by kernel_rfl
variable {w:List UInt8}
theorem SZ:cu af 67 [(0,strOf w),(2,.bool true)]= .ok (.agg ⟨[strOf w,.int .u32 (0:Nat),.bool true]⟩):=by kernel_rfl
theorem S0 {n:Int}:cu af 67 [(0,strOf w),(1,.int .u32 n)]= .ok (.agg ⟨[strOf w,.int .u32 n,.bool false]⟩):=by kernel_rfl
def Norm (e:aG):Prop:=(e.gone=true→e.weight=0)∧e.weight<4294967296
variable {A:Mem} {e:aG}
theorem RW (h:Norm e):∃A',bJ af 183 [strOf e.word,.int .u64 (val e:Nat)] A (.tuple ⟨[.agg ⟨bH e⟩,.bool true]⟩) A'∧Kp A A':=by
 obtain⟨w,n,gn⟩:=e;obtain⟨h1,h2⟩:=h;have h2:n<4294967296:=h2;have kB:=Kp.alloc A (aa 67 (bH ⟨w,n,gn⟩));have sB:aT af (A.alloc (aa 67 [strOf [],.int .u32 (0:Nat),.bool false])) 67 (.pointer (some ⟨A.next,0,none⟩)) (.agg ⟨bH ⟨w,n,gn⟩⟩)= .ok (A.alloc (aa 67 (bH ⟨w,n,gn⟩))):=a_ Sy rfl rfl (by simp) (sd _);have lB:ai af (A.alloc (aa 67 (bH ⟨w,n,gn⟩))).get 67 (.pointer (some ⟨A.next,0,none⟩))= .ok (.agg ⟨bH ⟨w,n,gn⟩⟩):=by
  obtain⟨d,hd1,hd2⟩:=bg (t:=67) (p:=true) (by kernel_rfl);exact aI hd1 hd2 Sy (fe A 67 (bH ⟨w,n,gn⟩))
 refine⟨_,?_,kB⟩;cases gn with
 |true=>
  obtain rfl:=h1 rfl;simp only [val,bH] at sB lB⊢;refine aP (av Tryz.func183) (c:=qdP.body.getD .skip) (by kernel_rfl) (by rw [Tryz.ntmps183];simp) (by kernel_rfl) (by kernel_rfl) ?_;apply W.run 60
  ·intro M;simp (disch:=decide+kernel) only [qdP,Aq,Zf,pU,aj,SZ,sB,lB];rfl
  exact⟨by simp,rfl,rfl,by simp only [qdP,Aq,Zf,pU,aj,SZ,sB,lB]<;>rfl⟩
 |false=>
  have hn:¬(n+1=0):=by omega
  have s1:aK .sub .u64 ((n+1:Nat):Int) ((1:Nat):Int)= .ok (.int .u64 (n:Nat)):=bm (by omega) (cJ (by omega));have hle:¬(4294967295<n):=by omega
  have cv:=bx (tb:=af) (s:=103) (d:=31) (k:=.u64) (n:=n) (by rw [eK];rfl) XO (by unfold iA;show Zt n 4294967296=true;rw [ZB];exact h2);simp only [val,bH,Zz,if_false] at sB lB⊢;refine aP (av Tryz.func183) (c:=qdP.body.getD .skip) (by kernel_rfl) (by rw [Tryz.ntmps183];simp) (by kernel_rfl) (by kernel_rfl) ?_;apply W.run 60
  ·intro M;simp (disch:=decide+kernel) only [qdP,Aq,Zf,pU,aj,S0,sB,lB,hn,s1,bT,bA,hle,cv];rfl
  exact⟨by simp,rfl,rfl,by simp only [qdP,Aq,Zf,pU,aj,S0,sB,lB,hn,s1,bT,bA,hle,cv]<;>rfl⟩
end Go.Proofs.YtggndfefpbmaeaaGreatDoor.sto
namespace Go.Proofs.YtggndfefpbmaeaaGreatDoor.sto
open Go.Am Go.Mdl Go.Sto
variable {A:Mem} {M:List a6} {y:Value}
theorem O5 {k:Value} (h:dY A M y) (hM:M≠ []) (hl:M.length<1000000):∃A',bJ af 215 [.agg ⟨[y,k]⟩] A (.int .i64 (M.length-1:Nat)) A'∧Kp A A':=by
 have kB:=Kp.alloc A (aa 105 [y,k]);have vB:=az A 105 [y,k];generalize hB:A.alloc (aa 105 [y,k])=B at kB vB;have ly:ai af B.get 102 (pw A.next 0)= .ok y:=vB.ld rfl fP rfl;have cm:=(h.kp kB).len;have hpos:=ZW.2 hM;have s1:aK .sub .i64 ((M.length:Nat):Int) ((1:Nat):Int)= .ok (.int .i64 (M.length-1:Nat)):=bm (by omega) (aR (by omega));refine⟨B,?_,kB⟩;refine aP (av Tryz.func215) (c:=Tryz.f215.body.getD .skip) (by kernel_rfl) (by rw [Tryz.ntmps215];simp) (by kernel_rfl) (by kernel_rfl) ?_;apply W.run 60
 ·intro M;simp (disch:=decide+kernel) only [Tryz.f215,Aq,Zf,aj,hB,sf,ly,cm,s1];rfl
 exact⟨by simp,rfl,rfl,by simp only [Tryz.f215,Aq,Zf,aj,hB,sf,ly,cm,s1]<;>rfl⟩
theorem Gr:Value.nilFunc.cells.toList=[.nilFunc]:=rfl
theorem SF:bO af 310= .ok .nilFunc:=by kernel_rfl
theorem Ys:aV af 310= .ok 1:=by kernel_rfl
theorem TX {x:Int} {f:Bool}:cu af 257 [(0,.int .u64 x),(1,.bool f)]= .ok (.agg ⟨[.int .u64 x,.bool f]⟩):=by kernel_rfl
def ke (M:List a6) (k:Nat):List (List UInt8×Nat):=(ws M (M.length-1)).map fun x=>(x.1,k+x.2)
noncomputable def z8:Code:=qdj.body.getD .skip
theorem QJ:qdj.body=some (.seq (sub z8 [0]) (.seq (sub z8 [1,0]) (.seq (sub z8 [1,1,0]) (.seq (sub z8 [1,1,1,0]) (sub z8 [1,1,1,1]))))):=by kernel_rfl
variable {k:Nat} {X:List Nat}
theorem Pa {J:Mem} {lp p3 p4 r0:Nat} {Q:Nat→Mem→Nat→Prop} (hS:dY A M y) (g:de M) (hM:M≠ []) (hl:M.length<1000000) (hL:∀x∈ke M k,x.1.length<1000∧x.2<18446744073709551616)
 (hK:∀j D E r,Q j D r→D.next≤E.next→(∀z,(z<J.next∨z=r)→E.get z=D.get z)→Q j E r) (hR:∀j D r,Q j D r→r<D.next) (hE:TG X lp (ke M k) Q) (hJ:Kp A J) (hX:∀x,(x∈X∨x=r0)→A.next≤x∧x<J.next∧x≠p3∧x≠p4)
 (v3:VB J 9 p3 (.var 1) [strOf []]) (v4:VB J 105 p4 (.var 2) [y,.int .u64 k]) (hI:Q 0 J r0):
 ∃v E,bJ af 212 [.func (.yield lp) ⟨[]⟩ ⟨[]⟩,pV p3,pV p4] J v E∧∃r,Q (ke M k).length E r∧pj X J r0 E r:=by
 generalize hb:J.next=b5
 have hpos:=ZW.2 hM;have k1:=Kp.alloc J (aa 309 [.func (.yield lp) ⟨[]⟩ ⟨[]⟩]);have n1:(J.alloc (aa 309 [.func (.yield lp) ⟨[]⟩ ⟨[]⟩])).next=b5+1:=by rw [ae,hb]
 have w5:=az J 309 [.func (.yield lp) ⟨[]⟩ ⟨[]⟩];rw [hb] at w5;generalize hB1:J.alloc (aa 309 [.func (.yield lp) ⟨[]⟩ ⟨[]⟩])=B1 at k1 n1 w5;have k2:=Kp.alloc B1 (aa 310 [.func (.func 213) ⟨[]⟩ ⟨ky p3 p4 b5 (b5+1)⟩]);have n2:(B1.alloc (aa 310 [.func (.func 213) ⟨[]⟩ ⟨ky p3 p4 b5 (b5+1)⟩])).next=b5+2:=by rw [ae,n1]
 have w6:=az B1 310 [.func (.func 213) ⟨[]⟩ ⟨ky p3 p4 b5 (b5+1)⟩];have s6:aT af (B1.alloc (aa 310 [.nilFunc])) 310 (pw B1.next 0) (.func (.func 213) ⟨[]⟩ ⟨ky p3 p4 b5 (b5+1)⟩)= .ok (B1.alloc (aa 310 [.func (.func 213) ⟨[]⟩ ⟨ky p3 p4 b5 (b5+1)⟩])):=a_ Ys rfl rfl (by simp) (by simp [aH]);rw [n1] at w6 s6;generalize B1.alloc (aa 310 [.func (.func 213) ⟨[]⟩ ⟨ky p3 p4 b5 (b5+1)⟩])=B at k2 n2 w6 s6;have kJB:=k1.trans k2;have V5:=w5.kp k2;have hSB:=hS.kp (hJ.trans kJB);obtain⟨d,hd1,hd2⟩:=Ss;have l4:ai af B.get 105 (pw p4 0)= .ok (.agg ⟨[y,.int .u64 k]⟩):=aI hd1 hd2 (l:=[y,.int .u64 k]) dz (v4.kp kJB).2;obtain⟨C,⟨gr,hgr⟩,kC⟩:=O5 hSB hM hl (k:=.int .u64 k);have kJC:=kJB.trans kC;have l6:ai af C.get 310 (pw (b5+1) 0)= .ok (.func (.func 213) ⟨[]⟩ ⟨ky p3 p4 b5 (b5+1)⟩):=by
  obtain⟨d,hd1,hd2⟩:=PN;exact(w6.kp kC).ld rfl hd1 hd2
 have l7:ai af C.get 103 (pw p4 (0+1))= .ok (.int .u64 k):=(v4.kp kJC).ld rfl eK rfl;have hr0:=hX r0 (.inr rfl);have hAJ:=hJ.1;have nC:=kC.1;have hQC:Q 0 C r0:=hK _ _ _ _ hI kJC.1 fun z hz=>kJC.2 z (by omega)
 obtain⟨vb,E,⟨gb,hgb⟩,rfl,r,hQE,hFE⟩:=Hf (A:=A) (M:=M) (y:=y) (k:=.int .u64 k) (l0:=lp) (p3:=p3) (p4:=p4) (p5:=b5) (p6:=b5+1) (P0:=C.next) (X:=X) (L:=ke M k)
  (Q:=fun j D r=>Q j D r∧pj X C r0 D r) hS g hl hL
  (fun j D E r hq hn hz=>⟨hK _ _ _ _ hq.1 hn fun z hz'=>hz z (by have:=kJC.1;omega),⟨by have:=hq.2.1;omega,hq.2.2.1,fun z hz' hx hr=>by rw [hz z (.inl hz'),hq.2.2.2 z hz' hx hr]⟩⟩)
  (fun j D r hq=>by
   obtain⟨hq,hf⟩:=hq;have hrD:=hR _ _ _ hq;have hfn:=hf.1;have hfr:r=r0∨C.next≤r:=hf.2.1
   have kp:∀e z kk l,VB C e z kk l→z∉X→z≠r0→VB D e z kk l:=fun e z kk l h h1 h2=>⟨by have:=h.1;omega,h.2.same (hf.2.2 z h.1 h1 h2)⟩
   refine⟨⟨⟨by have:=kJC.1;omega,fun z hz=>by rw [hf.2.2 z (by have:=kJC.1;omega) (fun hx=>by have:=(hX z (.inl hx)).1;omega) (by omega),kJC.2 z (by omega),hJ.2 z hz]⟩,
    kp _ _ _ _ (v3.kp kJC) (fun hx=>(hX _ (.inl hx)).2.2.1 rfl) (fun e=>hr0.2.2.1 e.symm),kp _ _ _ _ (v4.kp kJC) (fun hx=>(hX _ (.inl hx)).2.2.2 rfl) (fun e=>hr0.2.2.2 e.symm),
    kp _ _ _ _ (V5.kp kC) (fun hx=>by have:=(hX _ (.inl hx)).2.1;omega) (by omega),kp _ _ _ _ (w6.kp kC) (fun hx=>by have:=(hX _ (.inl hx)).2.1;omega) (by omega),fun x hx=>?_⟩,hfn,fun x hx=>by have:=(hX x (.inl hx)).2.1;have:=kJC.1;omega⟩
   rcases hx with hx|rfl
   ·have:=hX x (.inl hx);have:=kJC.1;omega
   ·have:=kJC.1;omega)
  (fun j w v D r hj hq=>by
   obtain⟨E,r',h1,h2,h3⟩:=hE j w v D r hj hq.1;exact⟨E,r',h1,⟨h2,hq.2.trans h3⟩,h3⟩)
  (M.length-1) (by omega) [] k 0 C r0 ⟨hQC,pj.kp (Kp.refl C)⟩ (fun t x hx=>by
   rw [ZT];unfold ke;rw [ZH,hx];rfl)
 have hlen:(ke M k).length=(ws M (M.length-1)).length:=by unfold ke;rw [Zp]
 rw [ZT] at hQE;rw [←hlen] at hQE;refine cM (av Tryz.func212) QJ (by rw [Tryz.ntmps212];simp) (by kernel_rfl) (by kernel_rfl) ?_;simp only [ky,pV,tC,Z5,qac] at hgb s6 l6⊢;apply W.q
 ·intro M;simp (disch:=omega) only [z8,qdj,Aq,Zf,cF,hB1];rfl
 apply W.q
 ·intro M;simp (disch:=omega) only [z8,qdj,Aq,Zf,SF,Gr,n1];rfl
 apply W.q
 ·intro M;simp (disch:=omega) only [z8,qdj,Aq,Zf,cF,hb,n1,s6];rfl
 apply W.qG (gr)
 ·intro M hM;simp (disch:=omega) only [z8,qdj,Aq,Zf,hb,l4,hgr];rfl
 apply W.bf (gb) 20
 ·intro M hM;simp (disch:=first|decide+kernel|omega) only [z8,qdj,Aq,Zf,Zv,decide_true,if_true,l6,l7,Cu,TX,hgb];rfl
 exact⟨by simp,rfl,_,(by simp only [qdj,Aq,Zf]<;>rfl),r,hQE.1,(pj.kp kJC).trans hFE⟩
theorem Xf:aV af 60= .ok 1:=by kernel_rfl
theorem YG:bO af 60= .ok (.slice none 0 0):=by kernel_rfl
theorem TA:bO af 257= .ok (.agg ⟨[.int .u64 (0:Nat),.bool false]⟩):=by kernel_rfl
variable {b:Nat}
theorem Iw:ak af 257 (pw b 0) 0= .ok (pw b 0):=by kernel_rfl
noncomputable def nT:Code:=qbX.body.getD .skip
noncomputable def xH:Code:=sub nT [1,1,0,1,0,0]
noncomputable def xI:Code:=sub nT [1,1,0,1,0,1]
theorem Qm:qbX.body=some (.seq (sub nT [0]) (.seq (sub nT [1,0]) (.seq (.seq (sub nT [1,1,0,0]) (.block 0 (.rangeFunc (.tmp 15) #[16,17] xH xI))) (.seq (sub nT [1,1,1,0]) (sub nT [1,1,1,1]))))):=by kernel_rfl
noncomputable def fk (t:T Value) (d:Nat):eY:=ig t 37 [16,17] xH xI d
def QF (es:List aG) (t:T Value) (mk a:Nat) (j:Nat) (D:Mem) (r:Nat):Prop:=
 (r=a∨mk+2≤r)∧r<D.next∧mk+2≤D.next∧VB D 3 (a+1) (.var 1) [.int .i64 es.length]∧(∃x,VB D 60 (a+2) (.var 1) [x]∧aq D 67 3 r ((es.take j).map bH) x)∧
  D.get (mk+1)=some (.loop (if j<es.length then fk t mk else {fk t mk with state:=.done,pending:=some (.exit 0)}))
variable {t:T Value} {mk n:Nat}
theorem QF.eJ {es:List aG} {a:Nat} (hn:n≤mk+2) (ha:a+2<mk) (hmk:mk+1<n):∀j D E r,QF es t mk a j D r→D.next≤E.next→(∀z,(z<n∨z=r)→E.get z=D.get z)→QF es t mk a j E r:=by
 rintro j D E r ⟨h1,h2,h3,h4,⟨x,h5,h6⟩,h7⟩ hl hz;exact⟨h1,by omega,by omega,⟨by have:=h4.1;omega,h4.2.same (hz _ (by omega))⟩,⟨x,⟨by have:=h5.1;omega,h5.2.same (hz _ (by omega))⟩,h6.same hl fun _=>hz _ (.inr rfl)⟩,by rw [hz _ (by omega)];exact h7⟩
theorem Q3 {es:List aG} {a:Nat} {L:List (List UInt8×Nat)} (hL:L=es.map fun e=>(e.word,val e)) (hN:∀e∈es,Norm e) (hn:es.length<1000000) (ha:a+2<mk) (hs:Sl t [(5,pV (a+1)),(6,pV (a+2))]):TG [a+2,mk+1] (mk+1) L (QF es t mk a):=by
 subst hL;rintro j w v D r hj ⟨hr,hrD,hm,v5,⟨x,v6,hS⟩,hlp⟩;obtain⟨g5,g6,-⟩:=hs;rw [ZH] at hj;cases hej:es[j]? with
 |none=>rw [hej] at hj;cases hj
 |some e=>
 rw [hej] at hj;simp only [Z1,ZQ,Zq] at hj;obtain⟨rfl,rfl⟩:=hj;obtain⟨hjl,hje⟩:=Zl.1 hej;have hNe:=hN e (ZM hej);have hv:val e≤4294967296:=by
  have:=hNe.2;unfold val;split<;>omega
 rw [if_pos hjl] at hlp;rw [Zp];have kE:=Kp.alloc D (aa 257 [.int .u64 (val e:Nat),.bool true]);have vE:=az D 257 [.int .u64 (val e:Nat),.bool true];have nE:(D.alloc (aa 257 [.int .u64 (val e:Nat),.bool true])).next=D.next+1:=ae _ _
 have sE:aT af (D.alloc (aa 257 [.int .u64 (0:Nat),.bool false])) 257 (.pointer (some ⟨D.next,0,none⟩)) (tC (val e))= .ok (D.alloc (aa 257 [.int .u64 (val e:Nat),.bool true])):=a_ Jt rfl rfl (by simp) (by simp [aH]);generalize D.alloc (aa 257 [.int .u64 (val e:Nat),.bool true])=E at kE vE nE sE;have hLE:E.get (mk+1)=some (.loop (fk t mk)):=by rw [kE.2 _ (by omega)];exact hlp
 generalize hF1:E.set (mk+1) (.loop {fk t mk with state:=.busy})=F;have nF:F.next=E.next:=by rw [←hF1];exact aO _ _ _
 have fF:∀z,z≠mk+1→F.get z=E.get z:=fun z hz=>by rw [←hF1,aC,if_neg hz]
 have hLF:F.get (mk+1)=some (.loop {fk t mk with state:=.busy}):=by rw [←hF1,aC,if_pos rfl]
 have vF:VB F 257 D.next (.var 2) [.int .u64 (val e:Nat),.bool true]:=⟨by omega,vE.2.same (fF _ (by omega))⟩
 obtain⟨d,hd1,hd2⟩:=bg (t:=257) (p:=true) (by kernel_rfl);have l8:ai af F.get 257 (.pointer (some ⟨D.next,0,none⟩))= .ok (.agg ⟨[.int .u64 (val e:Nat),.bool true]⟩):=aI hd1 hd2 (l:=[.int .u64 (val e:Nat),.bool true]) Jt vF.2;have l8':ai af F.get 103 (.pointer (some ⟨D.next,0,none⟩))= .ok (.int .u64 (val e:Nat)):=vF.ld rfl eK rfl;have ks:=fun ih A=>NZ (ih:=ih) (A:=A) (n:=val e) (f:=true)
 rw [decide_eq_true hv] at ks;simp only [qbu] at ks;obtain⟨G,⟨go,hgo⟩,kG⟩:=RW (A:=F) hNe;have nG:=kG.1;have kH:=Kp.alloc G (aa 67 (bH e));have nH:(G.alloc (aa 67 (bH e))).next=G.next+1:=ae _ _
 have sH:aT af (G.alloc (aa 67 [strOf [],.int .u32 (0:Nat),.bool false])) 67 (.pointer (some ⟨G.next,0,none⟩)) (.agg ⟨bH e⟩)= .ok (G.alloc (aa 67 (bH e))):=a_ Sy rfl rfl (by simp) (sd _);have lH:ai af (G.alloc (aa 67 (bH e))).get 67 (.pointer (some ⟨G.next,0,none⟩))= .ok (.agg ⟨bH e⟩):=by
  obtain⟨d,hd1,hd2⟩:=bg (t:=67) (p:=true) (by kernel_rfl);exact aI hd1 hd2 Sy (fe G 67 (bH e))
 generalize G.alloc (aa 67 (bH e))=H at kH nH sH lH;have fH:∀z,z<D.next→z≠mk+1→H.get z=D.get z:=fun z hz h=>by rw [kH.2 z (by omega),kG.2 z (by omega),fF z h,kE.2 z hz]
 have hSH:aq H 67 3 r ((es.take j).map bH) x:=hS.same (by omega) fun h=>fH r h (by omega)
 have l6:ai af H.get 60 (.pointer (some ⟨a+2,0,none⟩))= .ok x:=aU P7 rfl (v6.2.same (fH _ v6.1 (by omega))) rfl;obtain⟨x',I,happ,hSI,nI,fI⟩:=wX (e:=e) hSH (by rw [ZD];omega);have happ':ba af (H.alloc (aa 67 (bH e))) 60 60 x (.slice (some ⟨H.next,0,none⟩) 1 2)= .ok (x',I):=happ;have et:es.take j++[e]=es.take (j+1):=by rw [Zs hjl,hje]
 rw [et] at hSI;have hdn:=v6.1;have v6I:dj I 60 (a+2) (.var 1) [x]:=v6.2.same (by rw [fI _ (by omega) (by omega),fH _ v6.1 (by omega)]);obtain⟨xc1,xc2⟩:=aq.di hSI;obtain⟨N,sN,vN,nN,fN⟩:=aY (tb:=af) (t:=60) (o:=0) (v:=x') Xf v6I (by simp) xc1 xc2;have hSN:aq N 67 3 (H.next+1) ((es.take (j+1)).map bH) x':=hSI.same (by omega) fun _=>fN _ (by omega)
 have l6':ai af N.get 60 (.pointer (some ⟨a+2,0,none⟩))= .ok x':=aU P7 rfl vN rfl;have hlenN:=(show dX N (es.take (j+1)) x' from⟨_,hSN⟩).len;rw [ZD,qam (by omega)] at hlenN;have fND:∀z,z<D.next→z≠mk+1→z≠a+2→z≠r→N.get z=D.get z:=fun z hz h1 h2 h3=>by rw [fN z h2,fI z h3 (by omega),fH z hz h1]
 have v5N:VB N 3 (a+1) (.var 1) [.int .i64 es.length]:=⟨by have:=v5.1;omega,v5.2.same (fND _ v5.1 (by omega) (by omega) (by omega))⟩;have l5:ai af N.get 3 (.pointer (some ⟨a+1,0,none⟩))= .ok (.int .i64 es.length):=v5N.ld rfl u3 rfl;have hlN:N.get (mk+1)=some (.loop {fk t mk with state:=.busy}):=by rw [fN _ (by omega),fI _ (by omega) (by omega),kH.2 _ (by omega),kG.2 _ (by omega)];exact hLF
 simp only [pV] at g5 g6;have fin:∀O:Mem,O.next=N.next→(∀z,z≠mk+1→O.get z=N.get z)→O.get (mk+1)=some (.loop (if j+1<es.length then fk t mk else {fk t mk with state:=.done,pending:=some (.exit 0)}))→
  QF es t mk a (j+1) O (H.next+1)∧pj [a+2,mk+1] D r O (H.next+1):=fun O hn hf hl=>by
  refine⟨⟨.inr (by omega),by omega,by omega,⟨by have:=v5N.1;omega,v5N.2.same (hf _ (by omega))⟩,⟨x',⟨by omega,dj.same (A:=N) vN (hf _ (by omega))⟩,hSN.same (by omega) fun _=>hf _ (by omega)⟩,hl⟩,by omega,.inr (by omega),fun z hz hx hr'=>?_⟩;simp only [ZC,Z0,or_false,not_or] at hx;rw [hf z hx.2,fND z hz hx.2 hx.1 hr']
 by_cases hlt:j+1<es.length
 ·have hne:¬(j+1=es.length):=by omega
  rw [decide_eq_true hlt];have hq:∃C,(∃g,∀N,g≤N→bc af (exec af N) (.round (mk+1) [strOf e.word,tC (val e)]) D= .ok (.val (.bool true) C))∧C=N.set (mk+1) (.loop (fk t mk)):=by
   refine iF hlp (t:=(t.set 16 (strOf e.word)).set 17 (tC (val e))) rfl ?_;show W af xH ⟨_,37,[],D,some (mk+1)⟩ _;apply W.run 20
   ·intro M;simp (disch:=omega) only [xH,nT,qbX,Aq,Zf,TA,aj,sE];rfl
   refine⟨rfl,_,hLE,rfl,?_⟩;show W af xI ⟨_,37,[],E.set (mk+1) (.loop {fk t mk with state:=.busy}),some (mk+1)⟩ _;rw [hF1];apply W.bf (go) 20
   ·intro M hM;simp (config:={maxSteps:=4000000}) (disch:=first|decide+kernel|omega|simp only [Wq,Zf]) only [xI,nT,qbX,Aq,Zj,reduceIte,Zf,Zg,g5,g6,l8,l8',Iw,ks,hgo,Zm,Zk,pU,aj,sH,l6,lH,FZ,happ',sN,l6',hlenN,l5,hne,Fq,au []];rfl
   exact⟨rfl,rfl,_,hlN,rfl⟩
  obtain⟨C,hc,rfl⟩:=hq;have:=fin (N.set (mk+1) (.loop (fk t mk))) (aO _ _ _) (fun z h=>by rw [aC,if_neg h]) (by rw [aC,if_pos rfl,if_pos hlt]);exact⟨_,_,hc,this.1,this.2⟩
 ·have heq:j+1=es.length:=by omega
  rw [decide_eq_false hlt];have hq:∃C,(∃g,∀N,g≤N→bc af (exec af N) (.round (mk+1) [strOf e.word,tC (val e)]) D= .ok (.val (.bool false) C))∧C=N.set (mk+1) (.loop {fk t mk with state:=.done,pending:=some (.exit 0)}):=by
   refine Hd (i:=0) hlp (t:=(t.set 16 (strOf e.word)).set 17 (tC (val e))) rfl ?_;show W af xH ⟨_,37,[],D,some (mk+1)⟩ _;apply W.run 20
   ·intro M;simp (disch:=omega) only [xH,nT,qbX,Aq,Zf,TA,aj,sE];rfl
   refine⟨rfl,_,hLE,rfl,?_⟩;show W af xI ⟨_,37,[],E.set (mk+1) (.loop {fk t mk with state:=.busy}),some (mk+1)⟩ _;rw [hF1];apply W.bf (go) 20
   ·intro M hM;simp (config:={maxSteps:=4000000}) (disch:=first|decide+kernel|omega|simp only [Wq,Zf]) only [xI,nT,qbX,Aq,Zj,reduceIte,Zf,Zg,g5,g6,l8,l8',Iw,ks,hgo,Zm,Zk,pU,aj,sH,l6,lH,FZ,happ',sN,l6',hlenN,l5,heq,show Zr 0 1=false from rfl,Fq,au []];rfl
   exact⟨rfl,rfl,_,hlN,rfl⟩
  obtain⟨C,hc,rfl⟩:=hq;have:=fin (N.set (mk+1) (.loop {fk t mk with state:=.done,pending:=some (.exit 0)})) (aO _ _ _) (fun z h=>by rw [aC,if_neg h]) (by rw [aC,if_pos rfl,if_neg hlt]);exact⟨_,_,hc,this.1,this.2⟩
theorem O' {k:Value}:bJ af 182 [.agg ⟨[y,k]⟩,strOf []] A (.func (.func 212) ⟨[]⟩ ⟨[pV (A.next+1),pV A.next]⟩) ((A.alloc (aa 105 [y,k])).alloc (aa 9 [strOf []])):=by
 have e:=ae A (aa 105 [y,k]);simp only [pV];refine aP (av Tryz.func182) (c:=Tryz.f182.body.getD .skip) (by kernel_rfl) (by rw [Tryz.ntmps182];simp) (by kernel_rfl) (by kernel_rfl) ?_;apply W.run 60
 ·intro M;simp (disch:=omega) only [Tryz.f182,Aq,Zf,aj,lX,e,bU,aM];rfl
 exact⟨by simp,rfl,rfl,by simp only [Tryz.f182,Aq,Zf,aj,lX,e,bU,aM]<;>rfl⟩
theorem OV {es:List aG} (hS:dY A M y) (g:de M) (hM:M≠ []) (hl:M.length<1000000) (hL:ke M k=es.map fun e=>(e.word,val e)) (hw:∀e∈es,e.word.length<1000∧Norm e) (h0:es≠ []) (hn:es.length<1000000):
 ∃v A',bJ af 130 [.agg ⟨[y,.int .u64 k]⟩,strOf [],.int .i64 es.length] A v A'∧dX A' es v∧Kp A A':=by
 refine dQ (av Tryz.func130) Qm (by rw [Tryz.ntmps130];simp) (by kernel_rfl) (by kernel_rfl) ?_;generalize ha:A.next=a
 have n1:(A.alloc (aa 105 [y,.int .u64 k])).next=a+1:=by rw [ae,ha]
 have n2:((A.alloc (aa 105 [y,.int .u64 k])).alloc (aa 3 [.int .i64 es.length])).next=a+2:=by rw [ae,n1]
 have n3:(((A.alloc (aa 105 [y,.int .u64 k])).alloc (aa 3 [.int .i64 es.length])).alloc (aa 60 [.slice none 0 0])).next=a+3:=by rw [ae,n2]
 have q1:=Kp.alloc A (aa 105 [y,.int .u64 k]);have q2:=Kp.alloc (A.alloc (aa 105 [y,.int .u64 k])) (aa 3 [.int .i64 es.length]);have q3:=Kp.alloc ((A.alloc (aa 105 [y,.int .u64 k])).alloc (aa 3 [.int .i64 es.length])) (aa 60 [.slice none 0 0]);have w3:=((az A 105 [y,.int .u64 k]).kp q2).kp q3;have w5:=(az (A.alloc (aa 105 [y,.int .u64 k])) 3 [.int .i64 es.length]).kp q3;have w6:=az ((A.alloc (aa 105 [y,.int .u64 k])).alloc (aa 3 [.int .i64 es.length])) 60 [.slice none 0 0];have hk:=q1.trans (q2.trans q3);rw [ha] at w3;rw [n1] at w5;rw [n2] at w6;have hpos:=ZW.2 h0;have hlt1:¬(es.length<1):=by omega
 apply W.q
 ·intro M;simp (disch:=omega) only [nT,qbX,Aq,Zf,aj,dc,tY,ha,n1,n2,YG];rfl
 generalize ((A.alloc (aa 105 [y,.int .u64 k])).alloc (aa 3 [.int .i64 es.length])).alloc (aa 60 [.slice none 0 0])=B at hk n3 w3 w5 w6;have l5:ai af B.get 3 (pw (a+1) 0)= .ok (.int .i64 es.length):=w5.ld rfl u3 rfl;apply W.q
 ·intro M;simp (disch:=decide+kernel) only [nT,qbX,Aq,Zf,l5,hlt1];rfl
 obtain⟨d,hd1,hd2⟩:=Ss;have l3:ai af B.get 105 (pw a 0)= .ok (.agg ⟨[y,.int .u64 k]⟩):=aI hd1 hd2 (l:=[y,.int .u64 k]) dz w3.2;obtain⟨gw,hgw⟩:=O' (A:=B) (y:=y) (k:=.int .u64 k);have m1:(B.alloc (aa 105 [y,.int .u64 k])).next=a+4:=by rw [ae,n3]
 have m2:((B.alloc (aa 105 [y,.int .u64 k])).alloc (aa 9 [strOf []])).next=a+5:=by rw [ae,m1]
 have x4:=(az B 105 [y,.int .u64 k]).kp (Kp.alloc _ (aa 9 [strOf []]));have x3:=az (B.alloc (aa 105 [y,.int .u64 k])) 9 [strOf []];have kC:=(Kp.alloc B (aa 105 [y,.int .u64 k])).trans (Kp.alloc _ (aa 9 [strOf []]));rw [n3] at x4 hgw;rw [m1] at x3;generalize (B.alloc (aa 105 [y,.int .u64 k])).alloc (aa 9 [strOf []])=C at hgw m2 x3 x4 kC;simp only [pV] at hgw;apply W.seq;apply W.qG (gw)
 ·intro M hM;simp (disch:=omega) only [nT,qbX,Aq,Zf,l3,hgw];rfl
 apply W.block;generalize ht0:T.set _ _ _=t0;have hsl:Sl t0 [(5,pV (a+1)),(6,pV (a+2)),(15,.func (.func 212) ⟨[]⟩ ⟨[pV (a+4),pV (a+3)]⟩)]:=by
  rw [←ht0];simp only [Sq,Zf,Zg,pV]
 clear ht0;obtain⟨h5,h6,h15,-⟩:=hsl;have nC:C.next=a+5:=m2
 have kJ:=(Kp.alloc C .defd).trans (Kp.alloc (C.alloc .defd) (.loop (fk t0 C.next)));have nJ1:(C.alloc .defd).next=C.next+1:=ae _ _
 have nJ:((C.alloc .defd).alloc (.loop (fk t0 C.next))).next=C.next+2:=by rw [ae,nJ1]
 have jL:((C.alloc .defd).alloc (.loop (fk t0 C.next))).get (C.next+1)=some (.loop (fk t0 C.next)):=by have:=ay (C.alloc .defd) (.loop (fk t0 C.next));rwa [nJ1] at this
 have jM:((C.alloc .defd).alloc (.loop (fk t0 C.next))).get C.next=some .defd:=by rw [(Kp.alloc (C.alloc .defd) _).2 _ (by omega)];exact ay C .defd
 generalize hJ:(C.alloc .defd).alloc (.loop (fk t0 C.next))=J at kJ nJ jL jM;have kBJ:=kC.trans kJ;have kAJ:=hk.trans kBJ;have hI:QF es t0 C.next a 0 J a:=⟨.inl rfl,by omega,by omega,w5.kp kBJ,⟨_,w6.kp kBJ,.inl ⟨rfl,rfl⟩⟩,by rw [if_pos hpos];exact jL⟩
 obtain⟨va,E,hA,r,hQE,hFE⟩:=Pa (A:=A) (J:=J) (lp:=C.next+1) (p3:=a+4) (p4:=a+3) (r0:=a) (X:=[a+2,C.next+1]) (Q:=QF es t0 C.next a) hS g hM hl (by
  rw [hL];intro x hx;obtain⟨e,he,rfl⟩:=ZX.1 hx;have:=(hw e he).2.2;refine⟨(hw e he).1,?_⟩;show val e<_;unfold val;split<;>omega)
  (QF.eJ (by omega) (by omega) (by omega)) (fun j D r h=>h.2.1) (Q3 hL (fun e he=>(hw e he).2) hn (by omega) ⟨h5,h6,trivial⟩) kAJ
  (fun x hx=>by
   simp only [ZC,Z0,or_false] at hx;omega)
  (x3.kp kJ) (x4.kp kJ) hI
 have hlen:(ke M k).length=es.length:=by rw [hL,Zp]
 rw [hlen] at hQE;obtain⟨e1,e2,e3,e4,⟨x,e5,e6⟩,e7⟩:=hQE;rw [if_neg (qau _)] at e7;rw [ZL] at e6;have hans:bJ af 212 ([]++[.func (.yield (C.next+1)) ⟨[]⟩ ⟨[]⟩]++[pV (a+4),pV (a+3)]) ((C.alloc .defd).alloc (.loop (ig t0 37 [16,17] xH xI C.next))) va E:=by
  show bJ af 212 _ ((C.alloc .defd).alloc (.loop (fk t0 C.next))) va E;rw [hJ];exact hA
 have hev:ev t0 (.tmp 15)= .ok (.func (.func 212) ⟨[]⟩ ⟨[pV (a+4),pV (a+3)]⟩):=by simp only [ev,h15]
 refine W.U0 (fid:=212) (first:=[]) (capt:=[pV (a+4),pV (a+3)]) (v:=va) (A':=E) (r:={fk t0 C.next with state:=.done,pending:=some (.exit 0)}) (i:=0) hev hans e7 rfl rfl ?_;generalize hK:E.set (C.next+1) (.loop {({fk t0 C.next with state:=.done,pending:=some (.exit 0)}:eY) with state:=.exhausted})=K;have nK:K.next=E.next:=by rw [←hK];exact aO _ _ _
 have fK:∀z,z≠C.next+1→K.get z=E.get z:=fun z hz=>by rw [←hK,aC,if_neg hz]
 have nE:=hFE.1;have w6K:dj K 60 (a+2) (.var 1) [x]:=e5.2.same (fK _ (by omega));have l6:ai af K.get 60 (pw (a+2) 0)= .ok x:=aU P7 rfl w6K rfl;obtain⟨xc1,xc2⟩:=aq.di e6;obtain⟨N,sN,vN,nN,fN⟩:=aY (tb:=af) (t:=60) (o:=0) (v:=x) Xf w6K (by simp) xc1 xc2;simp only [pV] at h6;show W af (.seq (sub nT [1,1,1,0]) (sub nT [1,1,1,1])) _ _;apply W.q
 ·intro M;simp (disch:=omega) only [nT,qbX,Aq,Zf,h6,l6,sN];rfl
 apply W.run 20
 ·intro M;simp only [nT,qbX,Aq,Zf];rfl
 have mE:E.get C.next=some .defd:=by rw [hFE.2.2 _ (by omega) (by simp;omega) (by omega),jM]
 obtain⟨O,t1,t2,t3⟩:=eP [C.next] N (by simp) (fun d hd=>by
  rw [Z9] at hd;rw [hd,fN _ (by omega),fK _ (by omega)];exact mE)
 have lO:ai af O.get 60 (pw (a+2) 0)= .ok x:=aU P7 rfl (vN.same (t3 _ (by simp;omega))) rfl;have hrx:r=a∨C.next+2≤r:=e1
 have hO:dX O es x:=⟨r,e6.same (by omega) fun h=>by rw [t3 _ (by simp;omega),fN _ (by omega),fK _ (by omega)]⟩;have kO:Kp A O:=⟨by omega,fun z hz=>by rw [t3 _ (by simp;omega),fN _ (by omega),fK _ (by omega),hFE.2.2 z (by omega) (by simp;omega) (by omega),kAJ.2 z (by omega)]⟩;exact⟨.inr rfl,O,[x],t1,(by simp only [qbX,Aq,Zf,h6,lO]<;>rfl),hO,kO⟩
variable {e:aG}
theorem KZ (h:e.weight<4294967296):Norm (bare e):=by
 unfold bare Norm;cases hg:e.gone
 ·simp [hg,h]
 ·simp
theorem NP (dss:List (List rM)) (hw:∀ds∈dss,∀d∈ds,d.wt<4294967296):∀l∈ib dss,∀e∈l,Norm e:=fun l hl=>by
 unfold ib at hl;obtain⟨h1,-⟩:=qaF.1 hl;obtain⟨ds,h2,rfl⟩:=ZX.1 h1;refine BI Norm fun e he=>KZ ?_
 obtain⟨d,hd,rfl⟩:=ZX.1 he;have hwt:=hw ds (qbK h2) d (qbK hd);unfold dE Aa bare;split<;>simp_all
variable {l:List aG}
theorem Kk (h:wo l):ke (dC l) (least l)=l.map fun e=>(e.word,val e):=by
 unfold ke;rw [(HE h).words,List.map_map];refine List.map_congr_left fun e he=>?_
 have:=least_le he;simp only [Function.comp,D,qa5];congr 1;omega
theorem M0:ak af 107 (pw b 0) 0= .ok (pw b 0):=by kernel_rfl
theorem M1:ak af 109 (pw b 0) 0= .ok (pw b 0):=by kernel_rfl
theorem Yo:aV af 107= .ok 2:=by kernel_rfl
variable {v:Value}
theorem pO (h:iO A l v) (hl:wo l) (hN:∀e∈l,Norm e):∃x A',bJ af 15 [v] A x A'∧dX A' l x∧Kp A A':=by
 obtain⟨g1,hg1⟩:=Fh h;obtain⟨p,y,rfl,h1,h2⟩:=h;have so:=HE hl;obtain⟨q0,-,qw,ql,-⟩:=id hl;have r1:ai af A.get 107 (pw p 0)= .ok (.agg ⟨[y,.int .u64 (least l:Nat)]⟩):=by
  obtain⟨d,hd1,hd2⟩:=bg (t:=107) (p:=true) (by kernel_rfl);obtain⟨c,e1,e2⟩:=h1.2;have hg:c.iX 2 0=some [y,.int .u64 (least l:Nat)]:=fR _ _ _ _ rfl fun j hj=>by
   have:j=0∨j=1:=by omega
   rcases this with rfl|rfl
   ·exact e2 0 (by simp [HD])
   ·exact e2 1 (by simp [HD])
  unfold ai;simp only [e1,hd1,hd2,cond_true,Yo,R.aw,hg]
 have kB:=Kp.alloc A (aa 107 [y,.int .u64 (least l:Nat)]);have vB:=az A 107 [y,.int .u64 (least l:Nat)];generalize hB:A.alloc (aa 107 [y,.int .u64 (least l:Nat)])=B at kB vB;have l5:ai af B.get 105 (pw A.next 0)= .ok (.agg ⟨[y,.int .u64 (least l:Nat)]⟩):=by
  obtain⟨d,hd1,hd2⟩:=Ss;exact aI hd1 hd2 (l:=[y,.int .u64 (least l:Nat)]) dz vB.2
 obtain⟨x,C,⟨g2,hg2⟩,hC,kC⟩:=OV (A:=B) (k:=least l) (es:=l) (h2.kp kB) so.good.1 so.ne (by have:=so.len;omega) (Kk hl) (fun e he=>⟨by have:=(qw e he).2.1;omega,hN e he⟩) q0 (by omega);have a82:bJ af 82 [.agg ⟨[y,.int .u64 (least l:Nat)]⟩,strOf [],.int .i64 l.length] A x C:=by
  refine aP (av Tryz.func82) (c:=Tryz.f82.body.getD .skip) (by kernel_rfl) (by rw [Tryz.ntmps82];simp) (by kernel_rfl) (by kernel_rfl) ?_;apply W.bf (g2) 60
  ·intro M hM;simp (disch:=omega) only [Tryz.f82,Aq,Zf,aj,hB,M0,l5,hg2,dI];rfl
  exact⟨by simp,rfl,rfl,by simp only [Tryz.f82,Aq,Zf,aj,hB,M0,l5,hg2,dI]<;>rfl⟩
 obtain⟨g3,hg3⟩:=a82;have a39:bJ af 39 [pV p,strOf [],.int .i64 l.length] A x C:=by
  simp only [pV];refine aP (av Tryz.func39) (c:=Tryz.f39.body.getD .skip) (by kernel_rfl) (by rw [Tryz.ntmps39];simp) (by kernel_rfl) (by kernel_rfl) ?_;apply W.bf (g3) 60
  ·intro M hM;simp (disch:=first|decide+kernel|omega) only [Tryz.f39,Aq,Zf,bk,Q4,aA,aX,M1,r1,hg3,dI];rfl
  exact⟨by simp,rfl,rfl,by simp only [Tryz.f39,Aq,Zf,bk,Q4,aA,aX,M1,r1,hg3,dI]<;>rfl⟩
 obtain⟨g4,hg4⟩:=a39;refine⟨x,C,?_,hC,kB.trans kC⟩;simp only [pV] at hg1 hg4⊢;refine aP (av Tryz.func15) (c:=Tryz.f15.body.getD .skip) (by kernel_rfl) (by rw [Tryz.ntmps15];simp) (by kernel_rfl) (by kernel_rfl) ?_;apply W.bf (g1+g4) 60
 ·intro M hM;simp (disch:=omega) only [Tryz.f15,Aq,Zf,hg1,hg4,dI];rfl
 exact⟨by simp,rfl,rfl,by simp only [Tryz.f15,Aq,Zf,hg1,hg4,dI]<;>rfl⟩
theorem Se:fieldsOf (af.bp 67)=[(false,9,0),(false,31,1),(false,4,2)]:=by kernel_rfl
theorem W7 {g:Nat→Option Ob} {x y:Operand}:wH af g .neq 67 x y (.agg ⟨bH e⟩) (.agg ⟨bH e⟩)= .ok (.bool false):=by
 have e1:qh af 67 x y (.agg ⟨bH e⟩) (.agg ⟨bH e⟩)=true:=by
  unfold qh;have:af.P.eqGuardType af.P.depth 67=false:=by decide+kernel
  rw [this];rfl
 have q:ed af g 100 67 (.agg ⟨bH e⟩) (.agg ⟨bH e⟩)= .ok true:=by
  rw [se (by kernel_rfl) Se (by kernel_rfl)];simp only [iw,cond_false,bH];rw [gu u9 rfl rfl,gu (o:=1) XO rfl rfl,gu (o:=2) u4 rfl rfl];simp only [R.aw,Ko (tb:=af) (t:=9) u9,pv (tb:=af) (t:=31) XO,Gz (tb:=af) (t:=4) u4];simp [R.aw]
 unfold wH;rw [e1,cond_true];simp only [];rw [q];rfl
noncomputable def rV:Code:=qc0.body.getD .skip
noncomputable def vk:Code:=sub rV [1,1,0,1,0,0]
theorem B_:qc0.body=some (.seq (sub rV [0]) (.seq (sub rV [1,0]) (.seq (.seq (sub rV [1,1,0,0]) (.block 0 (.loop vk))) (.seq (sub rV [1,1,1,0]) (sub rV [1,1,1,1]))))):=by kernel_rfl
theorem uR {x:Value} (h:dX A l x) (h2:dX A l y) (hl:l.length<1000000):∃v A',bJ af 14 [x,y] A v A'∧v= .bool true∧A'=A:=by
 refine cM (av Tryz.func14) B_ (by rw [Tryz.ntmps14];simp) (by kernel_rfl) (by kernel_rfl) ?_;have n1:=h.len;have n2:=h2.len;apply W.q
 ·intro M;simp (disch:=omega) only [rV,qc0,Aq,Zf];rfl
 apply W.q
 ·intro M;simp (disch:=decide+kernel) only [rV,qc0,Aq,Zf,n1,n2];rfl
 apply W.seq;apply W.q
 ·intro M;simp (disch:=omega) only [rV,qc0,Aq,Zf];rfl
 apply W.block;refine W.up l.length (fun i t D=>D=A∧Sl t [(0,x),(1,y),(5,.int .i64 i)]) ?_ (Zv _) ⟨rfl,?_⟩
 ·rintro i t D hi ⟨rfl,g0,g1,g5,-⟩;by_cases hlt:i<l.length
  ·have hli:=Zi hlt;obtain⟨p,i1,i2,-⟩:=h.at hli;obtain⟨q,j1,j2,-⟩:=h2.at hli;apply W.run 20
   ·intro M;simp (config:={maxSteps:=4000000}) (disch:=first|decide+kernel|omega|simp only [Wq,Zf]) only [vk,rV,qc0,Aq,Zj,reduceIte,Zf,Zg,g0,g1,g5,n1,hlt,i1,i2,j1,j2,CZ,W7,Fq,au []];rfl
   refine⟨hlt,_,_,rfl,rfl,?_⟩;simp only [Sq,Zf,Zg,g0,g1]
  ·apply W.run 20
   ·intro M;simp (disch:=decide+kernel) only [vk,rV,qc0,Aq,Zf,g0,g5,n1,hlt];rfl
   apply W.q
   ·intro M;simp (disch:=omega) only [rV,qc0,Aq,Zf];rfl
   apply W.run 20
   ·intro M;simp only [rV,qc0,Aq,Zf];rfl
   exact⟨by simp,rfl,_,(by simp only [qc0,Aq,Zf]<;>rfl),rfl,rfl⟩
 ·simp only [Sq,Zf,Zg]
theorem Yu:aV af 54= .ok 1:=by kernel_rfl
variable {ls:List (List aG)} {i:Nat}
theorem gW.at {x:Value} (h:gW A ls x) (hi:ls[i]?=some l):∃p v,aW af 40 x (.int .i64 i)= .ok p∧ai af A.get 54 p= .ok v∧iO A l v:=by
 obtain⟨b,xs,h1,h2,h3⟩:=h;obtain⟨v,e1,e2⟩:=h3 i l hi;obtain⟨d,hd1,hd2⟩:=bg (t:=54) (p:=false) (by kernel_rfl);exact⟨_,v,nZ.idx h1 Xv Yu (by rw [h2];exact(Zl.1 hi).1),nZ.load h1 hd1 hd2 e1,e2⟩
noncomputable def qd:Code:=qcZ.body.getD .skip
noncomputable def gL:Code:=sub qd [1,1,0,1,0,0]
theorem B7:qcZ.body=some (.seq (sub qd [0]) (.seq (sub qd [1,0]) (.seq (.seq (sub qd [1,1,0,0]) (.block 0 (.loop gL))) (.seq (sub qd [1,1,1,0]) (sub qd [1,1,1,1]))))):=by kernel_rfl
theorem Fc {x:Value} (h:gW A ls x) (hls:ls.length≤6) (hok:∀l∈ls,wo l) (hN:∀l∈ls,∀e∈l,Norm e):∃v A',bJ af 12 [x] A v A'∧ic A' ls v∧Kp A A':=by
 refine cM (av Tryz.func12) B7 (by rw [Tryz.ntmps12];simp) (by kernel_rfl) (by kernel_rfl) ?_;have n1:=h.len;apply W.q
 ·intro M;simp (disch:=omega) only [qd,qcZ,Aq,Zf,dI];rfl
 apply W.q
 ·intro M;simp (disch:=omega) only [qd,qcZ,Aq,Zf,dI];rfl
 apply W.seq;apply W.q
 ·intro M;simp (disch:=omega) only [qd,qcZ,Aq,Zf];rfl
 apply W.block;refine W.up ls.length (fun i t D=>Kp A D∧∃b xs y,aq D 60 1 b (xs.map fun v=>[v]) y∧A.next≤b∧(xs=[]→y= .slice none 0 0)∧xs.length=i∧(∀(j:Nat) (l:List aG),j<i→ls[j]?=some l→∃x,xs[j]?=some x∧dX D l x)∧Sl t [(0,x),(3,y),(4,.int .i64 i)]) ?_ (Zv _) ⟨Kp.refl _,A.next,[],.slice none 0 0,aq.nil _ _ _ _,Zn _,fun _=>rfl,rfl,fun j l hj=>absurd hj (qaS _),?_⟩
 ·rintro i t D hi ⟨kD,b,xs,y,hS,hb,hy0,hxl,hE,g0,g3,g4,-⟩;by_cases hlt:i<ls.length
  ·have hli:ls[i]?=some ls[i]:=Zi hlt;obtain⟨p,v0,j1,j2,hv0⟩:=(h.kp kD).at hli;have hok':=hok _ (ZO hlt);have hl0:ls[i]≠ []:=hok'.1;obtain⟨v,E,⟨g,hg⟩,⟨c,hv⟩,kE⟩:=pO hv0 hok' (hN _ (ZO hlt));obtain⟨ti,t1,t2,t3⟩:=Xs;have hSE:aq E 60 1 b (xs.map fun v=>[v]) y:=hS.same kE.1 (kE.2 b);have hSE':aq (E.alloc (aa 60 [v])) 60 1 b (xs.map fun v=>[v]) y:=hSE.same (by rw [ae];omega) fun h=>aB (by omega)
   have hvs:=aq.di hv;obtain⟨x',F,happ,hs3,hn3,hf3⟩:=aq.append (tb:=af) (st:=52) (xt:=52) hSE' Vr Vr XD t1 t2 t3 (by omega) (by omega) (by rw [Zp];omega) (ay E _) rfl (by
    intro w hw;rw [Z9.1 hw];exact hvs.2)
   rw [ae] at hs3 hn3 hf3;have bs:=Wr ⟨_,hv⟩;have hkD:=kD.1;have hkE:=kE.1;have eJ:∀z,z<E.next→(z=b→y= .slice none 0 0)→F.get z=E.get z:=fun z hz hzb=>by rw [hf3 z hzb (by omega),aB (by omega)]
   have keepE:∀{l:List aG} {x:Value},l≠ []→dX E l x→dX F l x:=by
    rintro l x hl ⟨c',e⟩;refine⟨c',e.same (by omega) fun hlt=>eJ c' hlt fun he=>?_⟩;by_cases hx:xs=[]
    ·exact hy0 hx
    ·exact absurd he.symm (HG hSE e (fun e=>hx (ZZ.1 e)) (fun e=>hl (ZZ.1 e)) (by decide))
   apply W.bf (g) 20
   ·intro M hM;simp (disch:=first|decide+kernel|omega) only [gL,qd,qcZ,Aq,Zf,g0,g3,g4,n1,hlt,j1,j2,hg,bs,happ];rfl
   refine⟨hlt,_,_,rfl,⟨by omega,fun z hz=>by rw [eJ z (by omega) (fun e=>by omega),kE.2 z (by omega),kD.2 z hz]⟩,E.next+1,xs++[v],x',by rw [Z3];exact hs3,by omega,fun h=>by simp at h,by rw [Zo,hxl];rfl,fun j l hj hl=>?_,?_⟩
   ·rcases ZS j i with hji|hji
    ·obtain⟨x1,e1,e2⟩:=hE j l hji hl;exact⟨x1,by rw [ZU (by omega)];exact e1,keepE (hok l (ZM hl)).1 (e2.kp kE)⟩
    ·have:j=i:=by omega
     subst this;rw [hli] at hl;cases hl;exact⟨v,by rw [ZN (by omega),hxl,qaz];rfl,keepE hl0 ⟨c,hv⟩⟩
   ·simp only [Sq,Zf,Zg,g0]
  ·have e:i=ls.length:=by omega
   subst e;apply W.run 20
   ·intro M;simp (disch:=decide+kernel) only [gL,qd,qcZ,Aq,Zf,g0,g3,g4,n1,hlt];rfl
   apply W.q
   ·intro M;simp (disch:=omega) only [qd,qcZ,Aq,Zf,g3];rfl
   apply W.run 20
   ·intro M;simp only [qd,qcZ,Aq,Zf];rfl
   exact⟨by simp,rfl,_,(by simp only [qcZ,Aq,Zf]<;>rfl),⟨b,xs,hS,hxl,fun j l hl=>hE j l (Zl.1 hl).1 hl⟩,kD⟩
 ·simp only [Sq,Zf,Zg]
noncomputable def c3:Code:=Tryz.f3.body.getD .skip
structure Zc (G:Mem) (ls:List (List aG)) (k:Nat) (t:T Value) (is:Bool) (j:Option Nat) (e:Nat):Prop where
 a:∃q8 z,t.get 8=some (pV q8)∧VB G 36 q8 (.var 4) (cr z (fb ls k))∧gh G (cV ls) z
 b:∃x,t.get 10=some x∧gW G ls x
 c:∃q19 l x,t.get 19=some (pV q19)∧VB G 39 q19 (.var 4) l∧t.get 20=some x∧((is=true∧Xw ls j=ls.length)→(∃y,l=cr y (fb ls k)∧gh G (cV ls) y)∧gW G ls x)∧(¬(is=true∧Xw ls j=ls.length)→l=cE∧x= .slice none 0 0)
 d:t.get 21=some (.int .i64 e)
variable {o:Nat} {vs l':List Value}
theorem wj {e t:TypeId} {k:Kd} {l:List Value} (v:VB A e b k l) (hs:aV af t= .ok vs.length) (h1:∀v∈vs,aH v=true) (h0:vs≠ []) (h2:o+vs.length≤l.length) (hl:l'.length=l.length) (hj:∀j,j<l.length→l'[j]?=if o≤j∧j<o+vs.length then vs[j-o]? else l[j]?):
 ∃A',aT af A t (pw b o) (.agg ⟨vs⟩)= .ok A'∧VB A' e b k l'∧A'.next=A.next∧∀x,x≠b→A'.get x=A.get x:=by
 obtain⟨A',g1,g2,g3,g4⟩:=v.2.put h1 h2 h0;refine⟨A',?_,⟨by rw [g2];exact v.1,g4 l' hl hj⟩,g2,g3⟩;unfold aT;have hc:(Value.agg ⟨vs⟩).cells.toList=vs:=rfl;simp only [hs,R.aw,hc,qdA,cond_true];exact g1
theorem S5:a9 af 33 0 []= .ok (aa 27 [],.nO 0 0):=by kernel_rfl
theorem XX:cu af 25 []= .ok (.agg ⟨[.int .u8 (0:Nat),.int .u8 (0:Nat),.int .u16 (0:Nat)]⟩):=by kernel_rfl
theorem Vb:aV af 25= .ok 3:=by kernel_rfl
theorem MR {D:Mem} {l:List (List UInt8×List UInt8)} (h:pW D l y) (hl:l.length<1000):
 ∃x E b,ba af (D.alloc (aa 27 [])) 33 33 (.slice (some ⟨D.next,0,none⟩) 0 0) y= .ok (x,E)∧aq E 27 2 b (l.map cG) x∧D.next≤b∧Kp D E:=by
 obtain⟨i,t1,t2,t3⟩:=Vq;have n1:(D.alloc (aa 27 [])).next=D.next+1:=ae _ _
 have h0:aq (D.alloc (aa 27 [])) 27 2 D.next [] (.slice (some ⟨D.next,0,none⟩) 0 0):=.inr ⟨.var 0,0,rfl,by omega,fe D 27 [],by simp,.inl rfl⟩
 obtain⟨bb,hb⟩:=h.kp (Kp.alloc D (aa 27 []));have hy:ji y= .ok l.length∧fZ (D.alloc (aa 27 [])).get 2 l.length y= .ok (l.map cG).flatten:=by
  rcases hb with⟨rfl,e⟩|⟨k,c,rfl,e1,e2,e3,e4⟩
  ·have:l=[]:=by simpa using e
   subst this;exact⟨rfl,rfl⟩
  ·rw [Zp];exact⟨rfl,ep e2 (by rw [dh e3,Zp])⟩
 obtain⟨x',D',b',e1,e2,e3,e4,e5⟩:=aq.kN (tb:=af) (st:=33) (xt:=33) (nl:=l.map cG) (m:=l.length) h0 LW LW rfl Sz t1 t2 t3 (by omega) (by omega) (by simp;omega) (y:=y) hy.1 hy.2 (by rw [Zp]) (fun c hc=>by obtain⟨f,-,rfl⟩:=ZX.1 hc;rfl) (by
  intro v hv;obtain⟨c,hc,hv⟩:=List.mem_flatten.1 hv;obtain⟨f,-,rfl⟩:=ZX.1 hc;exact sj f v hv)
 exact⟨x',D',b',e1,e2,by omega,by omega,fun z hz=>by rw [e5 z (fun e=>by omega) (by omega),aB (by omega)]⟩
variable {E:Mem}
theorem Ji {q:Nat} {l:List (List UInt8×List UInt8)} {f:List UInt8×List UInt8} {x:Value} (Y:List UInt8) (h:aq E 27 2 b (l.map cG) x) (hf:l[q]?=some f):
 ∃F,aT af E 9 (pw b (q*2+1)) (strOf Y)= .ok F∧aq F 27 2 b ((l.set q (f.1,Y)).map cG) x∧F.next=E.next∧∀z,z≠b→F.get z=E.get z:=by
 have hm:(l.map cG)[q]?=some (cG f):=by rw [ZH,hf];rfl
 have:=aq.field (tb:=af) (t:=9) (j:=1) (v:=strOf Y) h (by kernel_rfl) hm (by omega) rfl rfl;rwa [show(cG f).set 1 (strOf Y)=cG (f.1,Y) from rfl,←qda] at this
theorem Nr {q:Nat} {l:List (List UInt8×List UInt8)} {x:Value} (h:aq E 27 2 b (l.map cG) x) (hq:q<l.length):aW af 33 x (.int .i64 q)= .ok (pw b (q*2)):=aq.idx h LW Sx (by rw [Zp];exact hq)
theorem Da {x:Value} {m:jc} {l:List (Nat×Nat×Nat)} (h:gh A l x):(cr x m).length=4∧∀v∈cr x m,aH v=true:=by
 refine⟨rfl,fun v hv=>?_⟩;obtain⟨a,n,c,rfl⟩:=h.nO;simp only [cr,ZC,Z0,or_false] at hv;rcases hv with rfl|rfl|rfl|rfl<;>rfl
theorem EJ:cE.length=4∧∀v∈cE,aH v=true:=⟨rfl,by simp [cE,aH]⟩
theorem yg:∀(fs:List (List UInt8×List UInt8)) (l:Nat),((fs.drop l).map cG).flatten=((fs.map cG).flatten).drop (l*2)
 |fs,0=>by simp
 | [],l+1=>by simp
 |f::fs,l+1=>by
  rw [qc6,yg fs l,qar,qaO,show(l+1)*2=l*2+1+1 by omega];rfl
theorem yh:∀(fs:List (List UInt8×List UInt8)) (l:Nat),((fs.take l).map cG).flatten=((fs.map cG).flatten).take (l*2)
 |fs,0=>by simp
 | [],l+1=>by simp
 |f::fs,l+1=>by
  rw [qbr,qar,qaO,yh fs l,qar,qaO,show(l+1)*2=l*2+1+1 by omega];rfl
theorem Ks (fs:List (List UInt8×List UInt8)):((fs.map cG).flatten).length=fs.length*2:=by
 induction fs with
 |nil=>rfl
 |cons f fs ih=>rw [qar,qaO,Zo,ih,Zu];show 2+_=_;omega
variable {m:Nat} {fs:List (List UInt8×List UInt8)}
theorem x7 {D:Mem} {l:Nat} {k:Kd} (h:dj D 27 b k (fs.map cG).flatten) (hm:l+m≤fs.length):cT D.get 2 m (some ⟨b,l*2,none⟩)= .ok (((fs.drop l).take m).map cG).flatten:=by
 have hl:=Ks fs;have e:(((fs.drop l).take m).map cG).flatten=(((fs.map cG).flatten).drop (l*2)).take (m*2):=by rw [yh,yg]
 obtain⟨c,h1,h2⟩:=h;unfold cT;simp only [];cases hn:Zr (m*2) 0 with
 |true=>
  have:m=0:=by have:=ZA hn;omega
  subst this;rw [qaQ];rfl
 |false=>
  have hg:c.iX (m*2) (l*2)=some (((fs.map cG).flatten).drop (l*2)|>.take (m*2)):=fR _ _ _ _ (by rw [ZD,qak];omega) fun j hj=>by
   rw [h2 _ (by omega),qbI hj,qaT]
  simp only [cond_false,h1,hg];rw [e]
theorem xT {D:Mem} (h:aq D 27 2 b (fs.map cG) y) (h0:fs≠ []):∃k c,y= .slice (some ⟨b,0,none⟩) fs.length c∧bM c=fs.length∧dT c 2=true∧dj D 27 b k (fs.map cG).flatten∧b<D.next:=by
 rcases h with⟨-,h⟩|⟨k,c,h1,h2,h3,-,h5⟩
 ·exact absurd (ZZ.1 h) h0
 ·rw [Zp] at h1 h5;refine⟨k,c,h1,?_,?_,h3,h2⟩
  ·rcases h5 with rfl|⟨rfl,-⟩
   ·unfold bM ec;rw [show Zr (qa0 (2*fs.length) 2) 0=true by rw [qbd];exact qcG 2 _,cond_true];exact Nat.mul_div_cancel_left _ (by omega)
   ·exact cz (by omega)
  ·rcases h5 with rfl|⟨rfl,-⟩
   ·unfold dT ec;rw [show Zr (qa0 (2*fs.length) 2) 0=true by rw [qbd];exact qcG 2 _,cond_true]
   ·unfold dT;rw [cS,cond_false,dS (by omega)];rfl
theorem Uh {D:Mem} {q:Nat} (h:aq D 27 2 b (fs.map cG) y) (h0:fs≠ []) (hq:q≤fs.length):
 ∃y1,cP af 33 y none (some (.int .i64 q)) none= .ok y1∧ji y1= .ok q∧∀E:Mem,E.get b=D.get b→fZ E.get 2 q y1= .ok ((fs.take q).map cG).flatten:=by
 obtain⟨k,c,rfl,h1,h2,h3,-⟩:=xT h h0;have hpos:=ZW.2 h0;refine⟨.slice (some ⟨b,0,none⟩) q (fY c 0),?_,rfl,fun E hE=>?_⟩
 ·have hz:Zr fs.length 0=false:=by
   cases hz:Zr fs.length 0 with
   |false=>rfl
   |true=>have:=ZA hz;omega
  unfold cP;simp only [LW,h1,eQ hq,R.aw,gA,Sx,h2,cond_true,hz,qdE,cond_false];rfl
 ·have:=x7 (l:=0) (m:=q) (D:=E) (h3.same hE) (by omega);rw [qa5] at this;exact this
theorem Ug {D:Mem} {q:Nat} (h:aq D 27 2 b (fs.map cG) y) (hq:q<fs.length):
 ∃y1,cP af 33 y (some (.int .i64 q)) none none= .ok y1∧ji y1= .ok (fs.length-q)∧∀E:Mem,E.get b=D.get b→fZ E.get 2 (fs.length-q) y1= .ok ((fs.drop q).map cG).flatten:=by
 have h0:fs≠ []:=fun e=>by rw [e] at hq;simp at hq
 obtain⟨k,c,rfl,h1,h2,h3,-⟩:=xT h h0;refine⟨.slice (some ⟨b,q*2,none⟩) (fs.length-q) (fY c q),?_,rfl,fun E hE=>?_⟩
 ·have hz:Zr fs.length q=false:=by
   cases hz:Zr fs.length q with
   |false=>rfl
   |true=>have:=ZA hz;omega
  unfold cP;simp only [LW,h1,eQ (qdc hq),R.aw,gA,Sx,h2,cond_true,hz,qdE,cond_false,jd,ZT]
 ·have:=x7 (l:=q) (m:=fs.length-q) (D:=E) (h3.same hE) (by omega);rw [qaJ (by rw [qak];exact Zn _)] at this;exact this
theorem Nu {D:Mem} {q:Nat} (h:aq D 27 2 b (fs.map cG) y) (hq:q+1<fs.length) (hl:fs.length<1000):
 ∃y1 y2 x1 x2 E F,cP af 33 y none (some (.int .i64 q)) none= .ok y1∧ba af (D.alloc (aa 27 [])) 33 33 (.slice (some ⟨D.next,0,none⟩) 0 0) y1= .ok (x1,E)∧
  cP af 33 y (some (.int .i64 (q+1:Nat))) none none= .ok y2∧ba af E 33 33 x1 y2= .ok (x2,F)∧pW F (wA fs q) x2∧Kp D F:=by
 obtain⟨i,t1,t2,t3⟩:=Vq;have h0:fs≠ []:=fun e=>by rw [e] at hq;simp at hq
 have hb:b<D.next:=(xT h h0).choose_spec.choose_spec.2.2.2.2
 obtain⟨y1,s1,l1,f1⟩:=Uh h h0 (q:=q) (by omega);obtain⟨y2,s2,l2,f2⟩:=Ug h (q:=q+1) hq;have n1:(D.alloc (aa 27 [])).next=D.next+1:=ae _ _
 have g1:(D.alloc (aa 27 [])).get b=D.get b:=aB (by omega);have hr:aq (D.alloc (aa 27 [])) 27 2 D.next [] (.slice (some ⟨D.next,0,none⟩) 0 0):=.inr ⟨.var 0,0,rfl,by omega,fe D 27 [],by simp,.inl rfl⟩
 have one:∀l:List (List UInt8×List UInt8),(∀c∈l.map cG,c.length=2)∧∀v∈(l.map cG).flatten,aH v=true:=fun l=>⟨fun c hc=>by obtain⟨f,-,rfl⟩:=ZX.1 hc;rfl,fun v hv=>by
  obtain⟨c,hc,hv⟩:=List.mem_flatten.1 hv;obtain⟨f,-,rfl⟩:=ZX.1 hc;exact sj f v hv⟩
 obtain⟨x1,E,b1,e1,e2,e3,e4,e5⟩:=aq.kN (tb:=af) (st:=33) (xt:=33) (nl:=(fs.take q).map cG) (m:=q) hr LW LW rfl Sz t1 t2 t3 (by omega) (by omega) (by simp;omega) (y:=y1) l1 (f1 _ g1) (by rw [Zp,ZD];omega) (one _).1 (one _).2;have g2:E.get b=D.get b:=by rw [e5 b (fun e=>by omega) (by omega),g1]
 obtain⟨x2,F,b2,a1,a2,a3,a4,a5⟩:=aq.kN (tb:=af) (st:=33) (xt:=33) (nl:=(fs.drop (q+1)).map cG) (m:=fs.length-(q+1)) e2 LW LW rfl Sz t1 t2 t3 (by omega) (by omega) (by simp;omega) (y:=y2) l2 (f2 _ g2) (by rw [Zp,qak]) (one _).1 (one _).2;refine⟨y1,y2,x1,x2,E,F,s1,e1,s2,a1,⟨b2,?_⟩,by omega,fun z hz=>by rw [a5 z (fun e=>by omega) (by omega),e5 z (fun e=>by omega) (by omega),aB (by omega)]⟩;unfold wA;rw [Z3];simpa using a2
theorem Wf:cu af 27 []= .ok (.agg ⟨[strOf [],strOf []]⟩):=by kernel_rfl
def CD (x:Value) (k:Nat) (a b c d:Value) (n o:List UInt8):List Value:=[x,.int .u8 k,a,b,c,d,strOf n,strOf o]
theorem Y9:aV af 5= .ok 1:=by kernel_rfl
theorem KM {q:Nat} {x a b c d:Value} {n o:List UInt8} (v:VB A 29 q (.var 8) (CD x k a b c d n o)):
 ∃B C D,aT af A 5 (pw q 2) (.int .u8 (0:Nat))= .ok B∧aT af B 25 (pw q 3) (.agg ⟨[.int .u8 (0:Nat),.int .u8 (0:Nat),.int .u16 (0:Nat)]⟩)= .ok C∧
  aT af C 27 (pw q 6) (.agg ⟨[strOf [],strOf []]⟩)= .ok D∧VB D 29 q (.var 8) (jn x k)∧D.next=A.next∧∀z,z≠q→D.get z=A.get z:=by
 obtain⟨B,sB,vB,nB,fB⟩:=aY (tb:=af) (t:=5) (o:=2) (v:=.int .u8 (0:Nat)) Y9 v.2 (by show 2<8;omega) rfl rfl;have vB':VB B 29 q (.var 8) ((CD x k a b c d n o).set 2 (.int .u8 (0:Nat))):=⟨by rw [nB];exact v.1,vB⟩;have e8:∀j,j<8→j=0∨j=1∨j=2∨j=3∨j=4∨j=5∨j=6∨j=7:=fun j h=>by omega
 obtain⟨C,sC,vC,nC,fC⟩:=wj (t:=25) (o:=3) (vs:=[.int .u8 (0:Nat),.int .u8 (0:Nat),.int .u16 (0:Nat)]) (l':=[x,.int .u8 k,.int .u8 (0:Nat),.int .u8 (0:Nat),.int .u8 (0:Nat),.int .u16 (0:Nat),strOf n,strOf o]) vB' Vb (by simp [aH]) (by simp) (by simp [CD]) rfl (by
  intro j hj;rcases e8 j hj with rfl|rfl|rfl|rfl|rfl|rfl|rfl|rfl<;>rfl)
 obtain⟨D,sD,vD,nD,fD⟩:=wj (t:=27) (o:=6) (vs:=[strOf [],strOf []]) (l':=jn x k) vC Sx (by simp [aH,strOf]) (by simp) (by simp) rfl (by
  intro j hj;rcases e8 j hj with rfl|rfl|rfl|rfl|rfl|rfl|rfl|rfl<;>rfl)
 exact⟨B,C,D,sB,sC,sD,vD,by omega,fun z hz=>by rw [fD z hz,fC z hz,fB z hz]⟩
noncomputable def c4:Code:=qag.body.getD .skip
noncomputable def tW:Code:=sub c4 [1,1,1,1,1,1,1,1,1,0,1,0,0]
theorem QT:tW= .seq (sub tW [0]) (.seq (.block 1 (.seq (sub tW [1,0,0,0]) (sub tW [1,0,0,1]))) (sub tW [1,1])):=by kernel_rfl
noncomputable def XH:Code:=.seq (.seq (sub c4 [1,1,1,1,1,1,1,1,1,0,0]) (.block 0 (.loop tW))) (.seq (sub c4 [1,1,1,1,1,1,1,1,1,1,0]) (sub c4 [1,1,1,1,1,1,1,1,1,1,1]))
theorem MF:qag.body=some (.seq (sub c4 [0]) (.seq (sub c4 [1,0]) (.seq (sub c4 [1,1,0]) (.seq (sub c4 [1,1,1,0]) (.seq (sub c4 [1,1,1,1,0]) (.seq (sub c4 [1,1,1,1,1,0]) (.seq (sub c4 [1,1,1,1,1,1,0]) (.seq (sub c4 [1,1,1,1,1,1,1,0]) (.seq (sub c4 [1,1,1,1,1,1,1,1,0]) XH))))))))):=by kernel_rfl
theorem uj:ak af 36 (pw b 0) 3= .ok (pw b 3):=by kernel_rfl
theorem Cx:ak af 58 (pw b o) 1= .ok (pw b (o+1)):=by kernel_rfl
theorem GI:ak af 58 (pw b o) 2= .ok (pw b (o+2)):=by kernel_rfl
structure Ap (ls:List (List aG)) (k a b:Nat) (y x1 x12:Value) (p8:Nat) (z:Value) (D:Mem) (t:T Value):Prop where
 f:pW D (fy ls k) y
 s:VB D 36 p8 (.var 4) (cr z (fb ls k))
 z:gh D (cV ls) z
 x:gW D ls x1
 l:ic D ls x12
 sl:Sl t [(1,.int .u8 a),(2,.int .u8 b),(7,y),(8,pV p8),(10,x1),(12,x12)]
theorem ic.XU (h:ic A ls y) (hi:ls[i]?=some l):∃p x,aW af 52 y (.int .i64 i)= .ok p∧∀A',Kp A A'→ai af A'.get 60 p= .ok x∧dX A' l x:=by
 obtain⟨b,xs,h1,h2,h3⟩:=h;obtain⟨x,e1,e2⟩:=h3 i l hi;have hl:i<(xs.map fun v=>[v]).length:=by rw [Zp];exact(Zl.1 e1).1
 refine⟨_,x,aq.idx h1 Vr YU hl,fun A' k=>⟨?_,e2.kp k⟩⟩;have:=aq.load (tb:=af) (j:=0) (l:=[x]) (v:=x) (h1.same k.1 (k.2 b)) P7 rfl (by rw [ZH,e1];rfl) rfl (by omega);rwa [Z8] at this
theorem HB (d:Nat) (s:Nat×Nat×Nat):bP (d+2) (.agg ⟨dF s⟩) (.agg ⟨dF s⟩)=true:=by
 have h1:∀n:Int,mb n n=true:=fun n=>by rw [sO];simp
 simp [bP,dF,h1,dU]
theorem LI (s:Nat×Nat×Nat):bP 100 (.agg ⟨dF s⟩) (.agg ⟨dF s⟩)=true:=HB 98 s
theorem aq.bP {e:TypeId} {l:List (List Value)} {x:Value} (h:aq A e n b l x):bP 100 x x=true:=by
 rcases h with⟨rfl,-⟩|⟨k,c,rfl,-⟩
 ·simp [Am.bP]
 ·exact my _ _ _ _
variable {x12 z:Value}
theorem K5 {a p8:Nat} {x1:Value} {D:Mem} (hls:ls.length≤6) (hok:∀l∈ls,wo l) (hN:∀l∈ls,∀e∈l,Norm e) (hi:i<ls.length) (hk:Ap ls k a b y x1 x12 p8 z D t) (h13:t.get 13=some (.int .i64 i)):
 W af tW ⟨t,224,[],D,none⟩ fun e s'=>e= .nrm∧∃t' D',s'=⟨t',224,[],D',none⟩∧Kp D D'∧Ap ls k a b y x1 x12 p8 z D' t'∧t'.get 13=some (.int .i64 (i+1:Nat)):=by
 obtain⟨hF,hs8,hz,hx,hl,g1,g2,g7,g8,g10,g12,-⟩:=hk;have hli:ls[i]?=some ls[i]:=Zi hi;have lenL:=hl.len;have hfl:=mq ls k;obtain⟨v,E,⟨ga,ha⟩,kE,p,rfl,hD⟩:=C8 (q:=1048576) hF sV (gQ k hls) (by omega) (by omega);have l83:∀G,Kp D G→ai af G.get 34 (pw p8 3)= .ok z:=fun G h=>(hs8.kp h).ld rfl LX rfl
 obtain⟨b0,o0,j1,j2,j3,j4,j5⟩:=hz.at (gS hli);obtain⟨b1,o1,m1,m2,m3,m4,m5⟩:=(hz.kp kE).at (gS hli);obtain⟨rfl,rfl⟩:b1=b0∧o1=o0:=by
  have e:=m1.symm.trans j1;simp only [R.ok.injEq,Value.pointer.injEq,ZQ,Addr.mk.injEq] at e;exact⟨e.1,e.2.1⟩
 have hgood:=IL (k:=k) hls hok i _ hli;rw [hli] at hgood;obtain⟨v2,F,⟨gb,hb⟩,kF,x,rfl,hx2⟩:=Jq (l:=ls[i]) hD (n:=ls.length-i) (by omega) hgood;rw [sm] at hb hx2;simp only [if_true] at hb;obtain⟨l',hl',hseg⟩:=hx2 rfl;obtain rfl:=Z_ hl';have hb':∀M,gb≤M→bc af (exec af M) (.fn 13 [pw p 0,.agg ⟨dF (ls.length-i,ls[i].length,(crc.aN (cX ls[i])).length)⟩]) E= .ok (.val (.tuple ⟨[x,.int .i64 (0:Nat)]⟩) F):=hb;obtain⟨xl,G,⟨gc,hc⟩,hxl,kG⟩:=pO hseg (hok _ (ZO hi)) (hN _ (ZO hi));have kDF:=kE.trans kF;have kDG:=kDF.trans kG;obtain⟨q1,w,n1,hw2⟩:=hl.XU hli;obtain⟨n2,n3⟩:=hw2 F kDF;obtain⟨n2',n3'⟩:=hw2 G kDG;obtain⟨v3,G',⟨gd,hd⟩,rfl,rfl⟩:=uR hxl n3' (by have:=(hok _ (ZO hi)).2.2.2.1;omega);have lenW:=n3'.len;have e3:=l83 G' kDG;obtain⟨b2,o2,r1,r2,r3,r4,r5⟩:=(hz.kp kDG).at (gS hli);have ld:=l83 D (Kp.refl _);have ldE:=l83 E kE;have sz:bP 100 z z=true:=aq.bP hz.choose_spec;have sw:bP 100 w w=true:=aq.bP n3.choose_spec;have ss:=LI (ls.length-i,ls[i].length,(crc.aN (cX ls[i])).length);simp only [pV] at g8 ha;rw [QT];apply W.q
 ·intro M;simp (disch:=decide+kernel) only [tW,c4,qag,Aq,Zf,h13,g12,lenL,hi];rfl
 apply W.seq;apply W.block;apply W.qG (ga+gb)
 ·intro M hM;simp (config:={maxSteps:=4000000}) (disch:=first|decide+kernel|omega|simp only [Wq,Zf]) only [tW,c4,qag,Aq,Zj,reduceIte,Zf,Zg,g7,ha,g8,uj,ld,ldE,h13,j1,j2,m1,m2,sz,ss,hb',Zm,Zk,Fq,au [(3,1),(6,1)]];rfl
 apply W.bf (gc+gd) 20
 ·intro M hM;simp (config:={maxSteps:=4000000}) (disch:=first|decide+kernel|omega|simp only [Wq,Zf]) only [tW,c4,qag,Aq,Zj,reduceIte,Zf,Zg,hc,hd,g8,g12,h13,uj,Cx,e3,n1,n2,n2',sw,lenW,r1,r4,Fq,au [(8,4)]];rfl
 show W af _ _ _;have a1:aK .add .i64 ((i:Nat):Int) ((1:Nat):Int)= .ok (.int .i64 (i+1:Nat)):=a8 (aR (by omega));apply W.run 20
 ·intro M;simp (disch:=decide+kernel) only [tW,c4,qag,Aq,Zf,h13,a1];rfl
 refine⟨rfl,_,G',rfl,kDG,⟨hF.kp kDG,hs8.kp kDG,hz.kp kDG,hx.kp kDG,hl.kp kDG,?_⟩,?_⟩
 ·simp only [Sq,Zf,Zg,g1,g2,g7,g8,g10,g12,pV]
 ·simp only [T.aD,Zf,if_true]
noncomputable def X2:Code:=.seq (sub c4 [1,1,1,1,1,1,1,1,1,1,1,1,1,1,1,0]) (.seq (sub c4 [1,1,1,1,1,1,1,1,1,1,1,1,1,1,1,1,0]) (.seq (sub c4 [1,1,1,1,1,1,1,1,1,1,1,1,1,1,1,1,1,0]) (.seq (sub c4 [1,1,1,1,1,1,1,1,1,1,1,1,1,1,1,1,1,1,0]) (.seq (sub c4 [1,1,1,1,1,1,1,1,1,1,1,1,1,1,1,1,1,1,1,0]) (.seq (sub c4 [1,1,1,1,1,1,1,1,1,1,1,1,1,1,1,1,1,1,1,1,0]) (.seq (sub c4 [1,1,1,1,1,1,1,1,1,1,1,1,1,1,1,1,1,1,1,1,1,0]) (sub c4 [1,1,1,1,1,1,1,1,1,1,1,1,1,1,1,1,1,1,1,1,1,1])))))))
def P8 (D:Mem) (e:Ex) (s:St):Prop:=(e= .nrm∨e= .ret)∧s.d=[]∧s.t.get 6=some (.bool true)∧Kp D s.m
theorem Wj (a b:Bool):ik .neq (af.bp 4) (.bool a) (.bool b)= .ok (.bool (bif a then !b else b)):=by rw [u4];rfl
variable {r:Nat}
theorem Qb {q u p8:Nat} {x24 v25:Value} {K:Mem} {t0:T Value} (hq:q<ls.length) (hr:r<ls.length) (hu2:Alike ls[q] ls[r]↔u=ls.length) (hs8:VB K 36 p8 (.var 4) (cr z (fb ls k))) (hz:gh K (cV ls) z)
 (hsl:Sl t0 [(8,pV p8),(12,x12),(16,.int .i64 q),(17,.int .i64 r),(24,x24),(25,v25)]):
 W af (sub c4 [1,1,1,1,1,1,1,1,1,1,1,1,1,1,1,1,1,1,1,0]) ⟨t0,224,[],K,none⟩ (fun e s=>e= .nrm∧∃t',s=⟨t',224,[],K,none⟩∧Sl t' [(12,x12),(16,.int .i64 q),(17,.int .i64 r),(24,x24),(25,v25),(26,.bool (decide (u=ls.length)))]):=by
 obtain⟨g8,g12,h16,h17,h24,h25,-⟩:=hsl;simp only [pV] at g8;have lz:ai af K.get 34 (pw p8 3)= .ok z:=hs8.ld rfl LX rfl;obtain⟨bz,oz,m1,m2,m3,m4,m5⟩:=hz.at (gS (Zi hq));obtain⟨bw,ow,n1,n2,n3,n4,n5⟩:=hz.at (gS (Zi hr));simp only [] at m4 m5 n4 n5;by_cases h1:(crc.aN (cX ls[q])).length=(crc.aN (cX ls[r])).length
 ·by_cases h2:ls[q].length=ls[r].length
  ·have hu:u=ls.length:=hu2.1 ⟨h1,h2⟩;apply W.run 20
   ·intro M;simp (config:={maxSteps:=4000000}) (disch:=first|decide+kernel|omega|simp only [Wq,Zf]) only [c4,qag,Aq,Zj,reduceIte,Zf,Zg,g8,h16,h17,uj,lz,m1,n1,Cx,GI,m4,m5,n4,n5,h1,h2,Fq,au []];rfl
   refine⟨rfl,_,rfl,?_⟩;rw [decide_eq_true hu];simp only [Sq,Zf,Zg,g12,h16,h17,h24,h25]
  ·have hu:¬u=ls.length:=fun h=>h2 (hu2.2 h).2
   apply W.run 20
   ·intro M;simp (config:={maxSteps:=4000000}) (disch:=first|decide+kernel|omega|simp only [Wq,Zf]) only [c4,qag,Aq,Zj,reduceIte,Zf,Zg,g8,h16,h17,uj,lz,m1,n1,Cx,GI,m4,m5,n4,n5,h1,h2,Fq,au []];rfl
   refine⟨rfl,_,rfl,?_⟩;rw [decide_eq_false hu];simp only [Sq,Zf,Zg,g12,h16,h17,h24,h25]
 ·have hu:¬u=ls.length:=fun h=>h1 (hu2.2 h).1
  apply W.run 20
  ·intro M;simp (config:={maxSteps:=4000000}) (disch:=first|decide+kernel|omega|simp only [Wq,Zf]) only [c4,qag,Aq,Zj,reduceIte,Zf,Zg,g8,h16,h17,uj,lz,m1,n1,Cx,GI,m4,m5,n4,n5,h1,Fq,au []];rfl
  refine⟨rfl,_,rfl,?_⟩;rw [decide_eq_false hu];simp only [Sq,Zf,Zg,g12,h16,h17,h24,h25]
theorem Pw {q:Nat} {x24:Value} {K:Mem} (hls:ls.length≤6) (hok:∀l∈ls,wo l) (hN:∀l∈ls,∀e∈l,Norm e) (hq:q<ls.length) (hr:r<ls.length) (hX:gW K (FO ls q r) x24) (hl:ic K ls x12)
 (w12:t.get 12=some x12) (w16:t.get 16=some (.int .i64 q)) (w17:t.get 17=some (.int .i64 r)) (w24:t.get 24=some x24) (w26:t.get 26=some (.bool true)):
 W af (.seq (sub c4 [1,1,1,1,1,1,1,1,1,1,1,1,1,1,1,1,1,1,1,1,1,0]) (sub c4 [1,1,1,1,1,1,1,1,1,1,1,1,1,1,1,1,1,1,1,1,1,1])) ⟨t,224,[],K,none⟩ (P8 K):=by
 have e1:(FO ls q r)[q]?=some ls[r]:=by
  rw [u7 hq hr hq];by_cases e:q=r
  ·subst e;simp
  ·simp [e]
 have e2:(FO ls q r)[r]?=some ls[q]:=by rw [u7 hq hr hr];simp
 have okq:=hok _ (ZO hq);have okr:=hok _ (ZO hr);obtain⟨pa,va,a1,a2,a3⟩:=hX.at e1;obtain⟨xa,F1,⟨ga1,hga1⟩,hxa,kF1⟩:=pO a3 okr (hN _ (ZO hr));obtain⟨pw,w,b1,b2⟩:=hl.XU (Zi hr);obtain⟨b3,-⟩:=b2 K (Kp.refl K);obtain⟨b4,b5⟩:=b2 F1 kF1;have sw:bP 100 w w=true:=aq.bP b5.choose_spec;obtain⟨_,_,⟨gs1,hgs1⟩,rfl,rfl⟩:=uR hxa b5 (by have:=okr.2.2.2.1;omega);obtain⟨pb,vb,c1,c2,c3⟩:=(hX.kp kF1).at e2;obtain⟨xb,F2,⟨ga2,hga2⟩,hxb,kF2⟩:=pO c3 okq (hN _ (ZO hq));obtain⟨pw2,w2,d1,d2⟩:=hl.XU (Zi hq);obtain⟨d3,-⟩:=d2 _ kF1;obtain⟨d4,d5⟩:=d2 F2 (kF1.trans kF2);have sw2:bP 100 w2 w2=true:=aq.bP d5.choose_spec;obtain⟨_,_,⟨gs2,hgs2⟩,rfl,rfl⟩:=uR hxb d5 (by have:=okq.2.2.2.1;omega);apply W.qG (ga1+gs1+ga2+gs2)
 ·intro M hM;simp (config:={maxSteps:=4000000}) (disch:=first|decide+kernel|omega|simp only [Wq,Zf]) only [c4,qag,Aq,Zj,reduceIte,Zf,Zg,w12,w16,w17,w24,w26,a1,a2,hga1,b1,b3,b4,sw,hgs1,c1,c2,hga2,d1,d3,d4,sw2,hgs2,Fq,au [(11,7),(22,18)]];rfl
 apply W.run 20
 ·intro M;simp only [c4,qag,Aq,Zf];rfl
 exact⟨.inr rfl,rfl,by simp only [T.aD,Zf,if_true],kF1.trans kF2⟩
theorem N5 {a q p8:Nat} {x1:Value} {D:Mem} (hls:ls.length≤6) (hok:∀l∈ls,wo l) (hN:∀l∈ls,∀e∈l,Norm e) (hq:q<ls.length) (hr:r<ls.length) (hk:Ap ls k a b y x1 x12 p8 z D t) (h16:t.get 16=some (.int .i64 q)) (h17:t.get 17=some (.int .i64 r)):
 W af X2 ⟨t,224,[],D,none⟩ (P8 D):=by
 obtain⟨hF,hs8,hz,hx,hl,g1,g2,g7,g8,g10,g12,-⟩:=hk;have hfl:=mq ls k;have hfq:=gx (k:=k) (Zi hq);have hfr:=gx (k:=k) (Zi hr);obtain⟨x22,E,b22,ap,hE,hb22,kE⟩:=MR hF (by omega);have hFE:=hF.kp kE;obtain⟨br,or_,r1,r2,r3,r4⟩:=hFE.at hfr;obtain⟨G,sG,hG,nG,fG⟩:=Ji (crc.aN (cX ls[r])) hE hfq;have ixE:=Nr hE (by omega:q<(fy ls k).length);have kDG:Kp D G:=⟨by rw [nG];exact kE.1,fun z hz=>by rw [fG z (by omega),kE.2 z hz]⟩;have hFG:=hF.kp kDG;obtain⟨bq,oq,q1,q2,q3,q4⟩:=hFG.at hfq;have hfr2:∃f',((fy ls k).set q (eF (ls.length-q),crc.aN (cX ls[r])))[r]?=some f'∧f'.1=eF (ls.length-r):=by
  rw [qaj];by_cases e:q=r
  ·subst e;rw [if_pos rfl,if_pos (by omega)];exact⟨_,rfl,rfl⟩
  ·rw [if_neg e];exact⟨_,hfr,rfl⟩
 obtain⟨f',hf1,hf2⟩:=hfr2;obtain⟨H,sH,hH,nH,fH⟩:=Ji (crc.aN (cX ls[q])) hG hf1;have ixG:=Nr hG (by rw [ZR];omega:r<((fy ls k).set q (eF (ls.length-q),crc.aN (cX ls[r]))).length);rw [hf2] at hH;have kDH:Kp D H:=⟨by rw [nH,nG];exact kE.1,fun z hz=>by rw [fH z (by omega),kDG.2 z hz]⟩;have hFH:pW H (Pt (fy ls k) q r (eF (ls.length-q)) (eF (ls.length-r)) (crc.aN (cX ls[r])) (crc.aN (cX ls[q]))) x22:=⟨b22,hH⟩;obtain⟨v1,I,⟨ga,ha⟩,kI,p,rfl,hD⟩:=C8 (q:=1048576) hFH (Pu hq hr) (rz hls hq hr) (by unfold Pt;rw [ZR,ZR];omega) (by omega);have hal:∃u,u≤ls.length∧(Alike ls[q] ls[r]↔u=ls.length)∧(∀(i:Nat) (l:List aG),i<u→ls[i]?=some l→qM l (FO ls q r)[i]?=true)∧∀l:List aG,ls[u]?=some l→qM l (FO ls q r)[u]?=false:=by
  by_cases hA:Alike ls[q] ls[r]
  ·exact⟨ls.length,Zn _,⟨fun _=>rfl,fun _=>hA⟩,fun i l _ h=>Px hq hr hA h,fun l h=>by simp at h⟩
  ·exact⟨min q r,by omega,⟨fun h=>absurd h hA,fun h=>by omega⟩,fun i l hi h=>LO hq hr hi h,fun l h=>Pv hq hr hA h⟩
 obtain⟨u,hu1,hu2,hu3,hu4⟩:=hal;obtain⟨l2,x24,J,⟨gb,hb⟩,kJ,j1,j2⟩:=He (ms:=FO ls q r) (os:=fun i=>(FO ls q r)[i]?) (u:=u) hD (Py hls hq hr) (G5 hls hok) (Sr hls hok hq hr) hu1 hu3 hu4 (Sp ls q r) (fun i l _ h=>h) hls;have hlo:l2.length=4∧∀v∈l2,aH v=true:=by
  by_cases hg:u=ls.length
  ·obtain⟨⟨y2,rfl,hy2⟩,-⟩:=j1 hg;exact Da hy2
  ·obtain⟨rfl,-⟩:=j2 hg;exact EJ
 have z39:bO af 39= .ok (.agg ⟨cE⟩):=dv;have sK:aT af (J.alloc (aa 39 cE)) 39 (pw J.next 0) (.agg ⟨l2⟩)= .ok (J.alloc (aa 39 l2)):=a_ (by rw [hlo.1];exact C9) rfl (by rw [hlo.1];rfl) (by simp [cE]) hlo.2;have kK:=Kp.alloc J (aa 39 l2);simp only [pV] at g8 ha;apply W.q
 ·intro M;simp (disch:=decide+kernel) only [c4,qag,Aq,Zf,g7,S5,ap];rfl
 apply W.q
 ·intro M;simp (disch:=omega) only [c4,qag,Aq,Zf,g7,h16,h17,r1,Ng,r4,ixE,sG];rfl
 apply W.q
 ·intro M;simp (disch:=omega) only [c4,qag,Aq,Zf,g7,h16,h17,q1,Ng,q4,ixG,sH];rfl
 apply W.qG (ga+gb)
 ·intro M hM;simp (disch:=omega) only [c4,qag,Aq,Zf,ha,hb,Zm,Zk,z39,aj,sK];rfl
 have kDK:=kDH.trans (kI.trans (kJ.trans kK));have j1K:u=ls.length→gW (J.alloc (aa 39 l2)) (FO ls q r) x24:=fun h=>(j1 h).2.kp kK
 generalize J.alloc (aa 39 l2)=K at kK kDK j1K;generalize ht0:T.set _ _ _=t0;have hsl:Sl t0 [(8,pV p8),(12,x12),(16,.int .i64 q),(17,.int .i64 r),(24,x24),(25,.int .i64 (if u=ls.length then 0 else 12:Nat))]:=by
  rw [←ht0];simp only [Sq,Zf,Zg,g8,g12,h16,h17,pV]
 clear ht0;have hbody:=Qb (k:=k) hq hr hu2 (hs8.kp kDK) (hz.kp kDK) hsl;apply W.seq;refine hbody.mono ?_;rintro e s ⟨rfl,t',rfl,w12,w16,w17,w24,w25,w26,-⟩;show W af _ _ _;by_cases hu:u=ls.length
 ·rw [if_pos hu] at w25;rw [decide_eq_true hu] at w26;have bn:=Wj true true;apply W.q
  ·intro M;simp (disch:=decide+kernel) only [c4,qag,Aq,Zf,w25,w26,bn];rfl
  refine(Pw hls hok hN hq hr (j1K hu) (hl.kp kDK) (by simp only [T.aD,Zf,if_false,w12]) (by simp only [T.aD,Zf,if_false,w16]) (by simp only [T.aD,Zf,if_false,w17]) (by simp only [T.aD,Zf,if_false,w24]) (by simp only [T.aD,Zf,if_false,w26])).mono ?_;rintro e s ⟨f1,f2,f3,f4⟩;exact⟨f1,f2,f3,kDK.trans f4⟩
 ·rw [if_neg hu] at w25;rw [decide_eq_false hu] at w26;have bn:=Wj false false;apply W.q
  ·intro M;simp (disch:=decide+kernel) only [c4,qag,Aq,Zf,w25,w26,bn];rfl
  apply W.q
  ·intro M;simp (config:={maxSteps:=4000000}) (disch:=first|decide+kernel|omega|simp only [Wq,Zf]) only [c4,qag,Aq,Zj,reduceIte,Zf,Zg,w26,Fq,au [(11,7),(22,18)]];rfl
  apply W.run 20
  ·intro M;simp only [c4,qag,Aq,Zf];rfl
  exact⟨.inr rfl,rfl,by simp only [T.aD,Zf,if_true],kDK⟩
theorem QZ {q:Nat} (h:q<fs.length):(wA fs q).length=fs.length-1:=by
 unfold wA;rw [Zo,ZD,qak];omega
theorem MS {q:Nat}:∀f∈wA (fy ls k) q,0<f.1.length∧f.1.length≤64:=fun f hf=>by
 refine sV (ls:=ls) (k:=k) f ?_;rcases qas.1 hf with hf|hf
 ·exact qbK hf
 ·exact List.mem_of_mem_drop hf
noncomputable def X0:Code:=.seq (sub c4 [1,1,1,1,1,1,1,1,1,1,1,0]) (.seq (sub c4 [1,1,1,1,1,1,1,1,1,1,1,1,0]) (.seq (sub c4 [1,1,1,1,1,1,1,1,1,1,1,1,1,0]) (.seq (sub c4 [1,1,1,1,1,1,1,1,1,1,1,1,1,1,0]) X2)))
theorem N3 {a p8:Nat} {x1:Value} {D:Mem} (hls:ls.length≤6) (hok:∀l∈ls,wo l) (hN:∀l∈ls,∀e∈l,Norm e) (h0:0<ls.length) (ha:a<256) (hb:b<256) (hk:Ap ls k a b y x1 x12 p8 z D t):
 W af X0 ⟨t,224,[],D,none⟩ (P8 D):=by
 obtain⟨hF,hs8,hz,hx,hl,g1,g2,g7,g8,g10,g12,-⟩:=hk;have hfl:=mq ls k;have lx:=hx.len;have c1:=bx (tb:=af) (s:=5) (d:=3) (k:=.u8) (n:=a) (by rw [u5];rfl) u3 (aR (by omega));have c2:=bx (tb:=af) (s:=5) (d:=3) (k:=.u8) (n:=b) (by rw [u5];rfl) u3 (aR (by omega));have rm1:aK .rem .i64 ((a:Nat):Int) ((ls.length:Nat):Int)= .ok (.int .i64 (a % ls.length:Nat)):=uK (by omega);have rm2:aK .rem .i64 ((b:Nat):Int) ((ls.length:Nat):Int)= .ok (.int .i64 (b % ls.length:Nat)):=uK (by omega);have hq:a % ls.length<ls.length:=qav _ h0;have hr:b % ls.length<ls.length:=qav _ h0;generalize hqe:a % ls.length=q at*;generalize hre:b % ls.length=r at*;apply W.q
 ·intro M;simp (config:={maxSteps:=4000000}) (disch:=first|decide+kernel|omega|simp only [Wq,Zf]) only [c4,qag,Aq,Zj,reduceIte,Zf,Zg,g1,g2,g10,c1,c2,lx,rm1,rm2,Fq,au []];rfl
 obtain⟨bF,hF'⟩:=id hF;obtain⟨y1,y2,x1',x2',E,F,s1,a1,s2,a2,hG,kF⟩:=Nu hF' (q:=q) (by omega) (by omega);have ad:aK .add .i64 ((q:Nat):Int) ((1:Nat):Int)= .ok (.int .i64 (q+1:Nat)):=a8 (aR (by omega));apply W.q
 ·intro M;simp (config:={maxSteps:=4000000}) (disch:=first|decide+kernel|omega|simp only [Wq,Zf]) only [c4,qag,Aq,Zj,reduceIte,Zf,Zg,g7,S5,s1,a1,ad,s2,a2,Fq,au []];rfl
 have hn:=tZ (gx (k:=k) (Zi hq)) (gQ k hls);obtain⟨v1,I,⟨gi,hi⟩,kI,p,rfl,hD⟩:=C8 (q:=1048576) hG MS hn.1 (by rw [QZ (by omega)];omega) (by omega);obtain⟨l2,x20,J,⟨gb,hgb⟩,kJ,-,j2⟩:=He (ms:=ls) (os:=fun i=>if i=q then none else ls[i]?) (u:=q) hD (Nt hls hq) (G5 hls hok) (Q_ hls hok hq) (by omega) (fun i l h h2=>by
  rw [if_neg (by omega),h2];exact sm l) (fun l h=>by rw [if_pos rfl];rfl) rfl (fun i l h h2=>by rw [if_neg (by omega)];exact h2) hls
 obtain⟨rfl,rfl⟩:=j2 (by omega);rw [if_neg (by omega)] at hgb;have z39:bO af 39= .ok (.agg ⟨cE⟩):=dv;have sK:aT af (J.alloc (aa 39 cE)) 39 (pw J.next 0) (.agg ⟨cE⟩)= .ok (J.alloc (aa 39 cE)):=a_ C9 rfl rfl (by simp [cE]) EJ.2;have kK:=Kp.alloc J (aa 39 cE);simp only [pV] at g8 hi;apply W.qG (gi+gb)
 ·intro M hM;simp (disch:=omega) only [c4,qag,Aq,Zf,hi,hgb,Zm,Zk,z39,aj,sK];rfl
 have kDK:=kF.trans (kI.trans (kJ.trans kK));generalize J.alloc (aa 39 cE)=K at kK kDK;have ln0:aL af .len [40] [.slice none 0 0]= .ok (.int .i64 (0:Nat)):=ez Xv;apply W.q
 ·intro M;simp (config:={maxSteps:=4000000}) (disch:=first|decide+kernel|omega|simp only [Wq,Zf]) only [c4,qag,Aq,Zj,reduceIte,Zf,Zg,ln0,bT,bA,qau];rfl
 refine(N5 (y:=y) (x1:=x1) (x12:=x12) (z:=z) (a:=a) (b:=b) (p8:=p8) hls hok hN hq hr ⟨hF.kp kDK,hs8.kp kDK,hz.kp kDK,hx.kp kDK,hl.kp kDK,?_⟩ ?_ ?_).mono ?_
 ·simp only [Sq,Zf,Zg,g1,g2,g7,g8,g10,g12,pV]
 ·simp only [T.aD,Zf,if_false,if_true]
 ·simp only [T.aD,Zf,if_false,if_true]
 ·rintro e s ⟨f1,f2,f3,f4⟩;exact⟨f1,f2,f3,kDK.trans f4⟩
theorem T6:XH= .seq (.seq (sub c4 [1,1,1,1,1,1,1,1,1,0,0]) (.block 0 (.loop tW))) (.seq (sub c4 [1,1,1,1,1,1,1,1,1,1,0]) X0):=by
 unfold XH X0 X2
 kernel_rfl
theorem N4 {a p8:Nat} {x1:Value} {D:Mem} (hls:ls.length≤6) (hok:∀l∈ls,wo l) (hN:∀l∈ls,∀e∈l,Norm e) (ha:a<256) (hb:b<256) (hk:Ap ls k a b y x1 x12 p8 z D t):
 W af XH ⟨t,224,[],D,none⟩ (P8 D):=by
 rw [T6];apply W.seq;apply W.q
 ·intro M;simp (disch:=decide+kernel) only [c4,qag,Aq,Zf];rfl
 apply W.block;refine W.up ls.length (fun i t E=>Kp D E∧Ap ls k a b y x1 x12 p8 z E t∧t.get 13=some (.int .i64 i)) ?_ (Zv _) ⟨Kp.refl _,?_,?_⟩
 ·rintro i t E hi ⟨kE,hk,h13⟩;by_cases hlt:i<ls.length
  ·refine(K5 hls hok hN hlt hk h13).mono ?_;rintro e s' ⟨rfl,t',F,rfl,kF,hk',h13'⟩;exact⟨hlt,t',F,rfl,kE.trans kF,hk',h13'⟩
  ·have lenL:=hk.l.len;have lx:=hk.x.len;obtain⟨g1,g2,g7,g8,g10,g12,-⟩:=hk.sl;apply W.run 20
   ·intro M;simp (disch:=first|decide+kernel|omega) only [tW,c4,qag,Aq,Zf,h13,g12,lenL,hlt];rfl
   apply W.seq;by_cases h0:ls.length=0
   ·rw [h0] at lx;apply W.run 20
    ·intro M;simp (disch:=decide+kernel) only [c4,qag,Aq,Zf,g10,lx];rfl
    exact⟨.inr rfl,rfl,by simp only [T.aD,Zf,if_true],kE⟩
   ·apply W.run 20
    ·intro M;simp (disch:=decide+kernel) only [c4,qag,Aq,Zf,g10,lx,h0];rfl
    show W af _ _ _;refine(N3 hls hok hN (by omega) ha hb ⟨hk.f,hk.s,hk.z,hk.x,hk.l,?_⟩).mono ?_
    ·simp only [Sq,Zf,Zg,g1,g2,g7,g8,g10,g12]
    ·rintro e s ⟨f1,f2,f3,f4⟩;exact⟨f1,f2,f3,kE.trans f4⟩
 ·obtain⟨g1,g2,g7,g8,g10,g12,-⟩:=hk.sl;refine⟨hk.f,hk.s,hk.z,hk.x,hk.l,?_⟩;simp only [Sq,Zf,Zg,g1,g2,g7,g8,g10,g12]
 ·simp only [T.aD,Zf,if_true]
variable {dss:List (List rM)}
theorem OW {x a b c d:Value} {p0 p1:Nat} {n o:List UInt8} (h:xw A dss x) (hw:∀ds∈dss,∀d∈ds,d.wt<4294967296) (hk:k<256) (h0:p0<256) (h1:p1<256):
 ∃v A',bJ af 4 [.agg ⟨CD x k a b c d n o⟩,.int .u8 p0,.int .u8 p1] A v A'∧v= .bool true∧Kp A A':=by
 refine cM (av qdD) MF (by rw [Tryz.ntmps4];simp) (by kernel_rfl) (by kernel_rfl) ?_;have hok:=UF dss hw;have hN:=NP dss hw;have hls:=CE dss;have kB:=Kp.alloc A (aa 29 (CD x k a b c d n o));have vI:=az A 29 (CD x k a b c d n o);have nB:(A.alloc (aa 29 (CD x k a b c d n o))).next=A.next+1:=ae _ _
 apply W.q
 ·intro M;simp (disch:=omega) only [c4,qag,Aq,Zf,aj];rfl
 generalize A.alloc (aa 29 (CD x k a b c d n o))=B at kB vI nB;obtain⟨B1,B2,C,s1,s2,s3,vC,nC,fC⟩:=KM vI;have kC:Kp A C:=⟨by omega,fun z hz=>by rw [fC z (by omega),kB.2 z hz]⟩;have kw:∀ih A,bc af ih (.fn 5 []) A= .ok (.val (.bool true) A):=fun ih A=>UN
 apply W.q
 ·intro M;simp (disch:=omega) only [c4,qag,Aq,Zf,kw];rfl
 apply W.q
 ·intro M;simp (disch:=omega) only [c4,qag,Aq,Zf,Te,s1];rfl
 apply W.q
 ·intro M;simp (disch:=omega) only [c4,qag,Aq,Zf,XX,Tf,s2];rfl
 apply W.q
 ·intro M;simp (disch:=omega) only [c4,qag,Aq,Zf,Ni,Wf,s3];rfl
 have lw:ai af C.get 29 (pw A.next 0)= .ok (.agg ⟨jn x k⟩):=by
  obtain⟨d,hd1,hd2⟩:=bg (t:=29) (p:=true) (by kernel_rfl);exact aI hd1 hd2 (show aV af 29= .ok 8 by kernel_rfl) vC.2
 obtain⟨v,D,⟨g1,e1⟩,kD,y,z,rfl,hF,hz⟩:=Hk (h.kp kC) hok hk;generalize hls2:ib dss=ls at*;have zo:=Da (m:=fb ls k) hz;have sE:aT af (D.alloc (aa 36 cE)) 36 (pw D.next 0) (.agg ⟨cr z (fb ls k)⟩)= .ok (D.alloc (aa 36 (cr z (fb ls k)))):=a_ nh rfl rfl (by simp [cE]) zo.2;have z36:bO af 36= .ok (.agg ⟨cE⟩):=zT;have kE:=Kp.alloc D (aa 36 (cr z (fb ls k)));have vE:=az D 36 (cr z (fb ls k));apply W.qG (g1)
 ·intro M hM;simp (disch:=omega) only [c4,qag,Aq,Zf,lw,e1,Zm,Zk,z36,aj,sE];rfl
 have hFE:=hF.kp kE;have hzE:=hz.kp kE;have kE':=kD.trans kE;generalize D.alloc (aa 36 (cr z (fb ls k)))=E at kE vE hFE hzE kE';have hfl:=mq ls k;obtain⟨v,F,⟨g2,e2⟩,kF,p,rfl,hD⟩:=C8 (q:=1048576) hFE sV (gQ k hls) (by omega) (by omega);obtain⟨l1,x1,G,⟨g3,e3⟩,kG,r1,-⟩:=He (ms:=ls) (os:=fun i=>ls[i]?) (u:=ls.length) hD (pG (gQ k hls) (CW ls k)) (G5 hls hok) (IL hls hok) (Zn _) (fun i l _ h=>by
  rw [h];exact sm l) (fun l h=>by simp at h) rfl (fun i l _ h=>h) hls
 obtain⟨⟨y1,rfl,hy1⟩,hx1⟩:=r1 rfl;have z39:bO af 39= .ok (.agg ⟨cE⟩):=dv;have yo:=Da (m:=fb ls k) hy1;have sH:aT af (G.alloc (aa 39 cE)) 39 (pw G.next 0) (.agg ⟨cr y1 (fb ls k)⟩)= .ok (G.alloc (aa 39 (cr y1 (fb ls k)))):=a_ C9 rfl rfl (by simp [cE]) yo.2;have kH:=Kp.alloc G (aa 39 (cr y1 (fb ls k)));simp only [pV] at e2;rw [if_pos rfl] at e3;apply W.qG (g2+g3)
 ·intro M hM;simp (disch:=omega) only [c4,qag,Aq,Zf,e2,e3,Zm,Zk,z39,aj,sH];rfl
 have kEH:=(kF.trans kG).trans kH;have hx1H:=hx1.kp kH;generalize G.alloc (aa 39 (cr y1 (fb ls k)))=H at kH kEH hx1H;have n1:=hx1H.len;have vEH:=vE.kp kEH;have hzH:=hzE.kp kEH;have lz:ai af H.get 34 (pw D.next 3)= .ok z:=vEH.ld rfl LX rfl;have n2:=gh.len hzH;rw [eW] at n2;apply W.q
 ·intro M;simp (config:={maxSteps:=4000000}) (disch:=first|decide+kernel|omega|simp only [Wq,Zf]) only [c4,qag,Aq,Zj,reduceIte,Zf,Zg,n1,uj,lz,n2];rfl
 obtain⟨x12,I,⟨g4,e4⟩,hL,kI⟩:=Fc hx1H hls hok hN;apply W.qG (g4)
 ·intro M hM;simp (disch:=omega) only [c4,qag,Aq,Zf,e4];rfl
 have kCI:=kE'.trans (kEH.trans kI);refine(N4 (y:=y) (x1:=x1) (x12:=x12) (z:=z) (a:=p0) (b:=p1) (p8:=D.next) hls hok hN h0 h1 ⟨hFE.kp (kEH.trans kI),vEH.kp kI,hzH.kp kI,hx1H.kp kI,hL,?_⟩).mono ?_
 ·simp only [Sq,Zf,Zg,pV]
 ·rintro e s ⟨f1,f2,f3,f4⟩;refine⟨f1,f2,_,?_,rfl,kC.trans (kCI.trans f4)⟩;simp only [qag,fj,ev,f3];rfl
end Go.Proofs.YtggndfefpbmaeaaGreatDoor.sto
end
