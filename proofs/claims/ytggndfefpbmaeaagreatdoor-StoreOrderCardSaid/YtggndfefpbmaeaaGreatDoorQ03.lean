/- The abstract machine, the walk of the law and its plain laws, made small by a program; part 3: no conditions but those in each theorem. -/
import Derived.Test.YtggndfefpbmaeaaGreatDoorQ02
import Derived.Test.YtggndfefpbmaeaaGreatDoorChecked
import Derived.KernelRfl
set_option maxHeartbeats 16000000
set_option maxRecDepth 100000
set_option linter.unusedSimpArgs false
set_option linter.unusedVariables false
noncomputable section
open Nat renaming reduceEqDiff→Zf,ble→Zj,le_refl→Zn,beq→Zr,blt→Zt,zero_le→Zv,eq_of_beq_eq_true→ZA,blt_eq→ZB,lt_of_lt_of_le→ZJ,le_of_ble_eq_true→ZP,zero_add→ZT,le_trans→ZV,add_zero→Z8,ble_eq_true_of_le→qaf,shiftRight_eq_div_pow→qai,min_eq_left→qam,lt_of_le_of_lt→qan,pow_le_pow_right→qaq,lt_irrefl→qau,mod_lt→qav,mul_one→qaw,sub_self→qaz,sub_zero→qaA,mod_eq_of_lt→qaG,not_lt_zero→qaS,lt_succ_self→qa1,add_assoc→qa3,beq_eq→qbd,sub_add_cancel→qbf,add_mul→qbs,min_eq_right→qby,strongRecOn→qbL,two_pow_pos→qbM,succ→qb8,mul_le_mul_right→qce,add_comm→qck,ble_eq→qct,ne_of_beq_eq_false→qcB,one_mul→qcC,mul_mod_right→qcG,div_lt_iff_lt_mul→qcK,zero_mul→qcM,max_eq_right→qcY,log2_lt→qdr,pow_add→qds,beq_refl→qdA,max_eq_left→qdC,shiftRight→qdG
open And renaming intro→Zh
open List renaming getElem?_eq_getElem→Zi,getElem?_cons_succ→Zk,getElem?_eq_some_iff→Zl,getElem?_cons_zero→Zm,length_append→Zo,length_map→Zp,length_cons→Zu,length_eq_zero_iff→Zw,mem_cons_of_mem→Zx,mem_cons_self→Zy,length_nil→ZG,getElem?_map→ZH,take_length→ZL,mem_of_getElem?→ZM,getElem?_append_right→ZN,length_set→ZR,getElem?_append_left→ZU,cons_append→Z5,getElem?_eq_none→Z7,mem_singleton→Z9,nil_append→qac,length_singleton→qae,getElem?_set→qaj,append_nil→qap,mem_append→qas,all_eq_true→qat,range→qay,flatten_cons→qaO,mem_or_eq_of_mem_set→qbc,getElem?_range→qbq,map_nil→qc9
open Prod.mk renaming injEq→Zq
open Bool renaming false_eq_true→Zz,and_eq_true→ZF,eq_iff_iff→qaE,not_true→qaI,true_and→qa2,not_false→qa4,and_true→qbu
open Array renaming getElem?_eq_some_iff→ZE,getElem?_toList→ZK,replicate→qbb,getElem?_eq_getElem→qca,getD_eq_getD_getElem?→qcO
open Option.some renaming injEq→ZQ,inj→Z_
open Int renaming ofNat_eq_natCast→ZY
open Option renaming map_some→Z1,getD_some→qal,isSome_none→qaB,bind_some→qbg
open Go.Proofs.Tryz renaming prog→Z6,checked→qbN,f229→qcT
open UInt8 renaming ofNat→qaD,toNat_ofNat'→qdo
namespace Go.Am
section
def flat:Nat→Value→Bool
 |0,_=>false
 |d+1,v=>
  match v with
  | .bool _| .int _ _| .string _=>true
  | .agg l=>l.toList.all (flat d)
  | .tuple l=>l.toList.all (flat d)
  | .nilIface| .pointer none| .slice none 0 0| .map none| .nilFunc=>true
  | .iface _ v=>flat d v
  |_=>false
mutual
theorem CA {ι ι':dg}:∀(d:Nat) (v v':Value),flat d v=true→VR ι v v'→VR ι' v v'
 |0,_,_,h,_=>by simp [flat] at h
 |d+1,v,v',h,hv=>by
  unfold flat at h;split at h
  ·cases hv;exact .bool _
  ·cases hv;exact .int _ _
  ·cases hv;exact .string _
  ·cases hv with
   |agg hs=>exact .agg (sr d _ _ (qat.1 h) hs)
  ·cases hv with
   |tuple hs=>exact .tuple (sr d _ _ (qat.1 h) hs)
  ·cases hv;exact .nilIface
  ·cases hv;exact .ptrN
  ·cases hv;exact .slN
  ·cases hv;exact .mapN
  ·cases hv;exact .nilFunc
  ·cases hv with
   |iface hs=>exact .iface (CA d _ _ h hs)
  ·cases h
theorem sr {ι ι':dg}:∀(d:Nat) (l l':List Value),(∀v∈l,flat d v=true)→dG ι l l'→dG ι' l l'
 |_,[],_,_,h=>by cases h;exact .nil
 |d,v::l,_,hf,h=>by
  cases h with
  |cons hv ht=>exact .cons (CA d v _ (hf v (by simp)) hv) (sr d l _ (fun x hx=>hf x (by simp [hx])) ht)
end
variable {ι:dg} {A:Mem} {w':World}
theorem GY {w:World} (hr:Rel ι A w) (hl:Leaves w w') (hd:w.drawn≤w'.drawn):Rel ι A w'∧eE ι A w ι A w':=by
 refine⟨⟨hr.wf,fun b o l hg ha hb=>?_,fun b l hb=>ZJ (hr.rng b l hb) hl.2.1,hr.inj,hr.gl⟩,⟨Zn _,fun _ _=>rfl,fun b l hb hll=>.inr ⟨b,l,hb,hll,rfl⟩,fun c hc _=>hl.1 c hc,hl.2.1,hl.2.2.1,hl.2.2.2.1,hl.2.2.2.2,fun b l hb _=>⟨rfl,hl.1 _ (hr.rng b l hb)⟩,hd⟩⟩;obtain⟨o',h1,h2⟩:=hr.obs b o l hg ha hb;exact⟨o',by rw [hl.1 _ (hr.rng b l hb)];exact h1,h2⟩
def aJ (sp:List Value→Option Value):List Value→Mem→R (Value×Mem):=fun args A=>
 match sp args with
 |some v=>.ok (v,A)
 |none=>.no 600
variable {tb:bL} (ok:cc tb)
include ok in
theorem dN {f:FuncId} {fn:Func} {c:Code} (hf:tb.fn.get f=some fn) (hb:fn.body=some c) {sp:List Value→Option Value}
 (h:∀args v,sp args=some v→(∀x∈args,flat 9 x=true)∧flat 9 v=true∧∃n A1,call tb n f args ee= .ok (.val v A1)):b7 tb.P f (aJ sp):=by
 intro args A v A' ha;unfold aJ at ha;split at ha
 ·rename_i v0 hsp;simp only [R.ok.injEq,Zq] at ha;obtain⟨rfl,rfl⟩:=ha;obtain⟨hfa,hfv,n,A1,hc⟩:=h args v0 hsp;refine⟨Zn _,fun ι w args' hr hargs _ fr cs=>?_⟩;unfold call at hc;simp only [hf,hb] at hc;rcases yj ok (jP ok n) hf hb hc with⟨_,_,h1,_⟩|⟨v,A',h1,hle,hs⟩
  ·cases h1
  ·cases h1;obtain⟨ι',w',v',⟨fr0,st,hfn,hlv⟩,hv,hrel,hst⟩:=hs (fun _=>none) w args' (fr::cs) (Yl w) (sr 9 _ _ hfa hargs) (fun _ _ _=>rfl);have hl:Leaves w w':=⟨fun c hc=>hst.fr c hc (fun b l hl _=>absurd hl (K0 b)),hst.size,hst.os,hst.tape,hst.output⟩;obtain⟨h2,h3⟩:=GY hr hl hst.drawn;exact⟨ι,w',v',st.trans (.one (step_leave_returned hlv)),CA 9 _ _ hfv hv,h2,h3⟩
 ·cases ha
def bL.pY (tb:bL) (f:FuncId) (h:List Value→Mem→R (Value×Mem)):bL:={tb with hk:=tb.hk.set f h}
include ok in
theorem bY {f:FuncId} {h:List Value→Mem→R (Value×Mem)} (hh:b7 tb.P f h):cc (tb.pY f h) where
 ty:=ok.ty
 fn:=ok.fn
 mixed:=ok.mixed
 ex:=ok.ex
 hk:=fun g k hg=>by
  have hg':(tb.hk.set f h).get g=some k:=hg;rw [T.aD] at hg';split at hg'
  ·rename_i e;cases hg';rw [e];exact hh
  ·exact ok.hk g k hg'
end
section
variable {tb:bL} {ih:Code→St→R (Ex×St)}
theorem R.aw {α β:Type} (a:α) (f:α→R β):(R.ok a).bind f=f a:=rfl
theorem oA (n:Nat) (a b:Code) (s:St):exec tb (n+1) (.seq a b) s=(exec tb n a s).bind fun(e,s')=>match e with
 | .nrm=>exec tb n b s'
 |e=>.ok (e,s'):=rfl
theorem ou (n id:Nat) (ops:Array Oper) (s:St):exec tb (n+1) (.region id ops false) s=dW tb (exec tb n) ops.toList ops.toList s:=rfl
theorem ug (n:Nat) (s:St):exec tb (n+1) .skip s= .ok (.nrm,s):=rfl
theorem x_ (n:Nat) (s:St):exec tb (n+1) .ret s= .ok (.ret,s):=rfl
theorem uf (n id:Nat) (s:St):exec tb (n+1) (.exit id) s= .ok (.exit id,s):=rfl
theorem mW (n:Nat) (c:Code) (s:St):exec tb (n+1) (.scope c) s=exec tb n c s:=rfl
theorem ir (n id:Nat) (c:Code) (s:St):exec tb (n+1) (.block id c) s=(exec tb n c s).bind fun(e,s')=>match e with
 | .exit i=>bif Zr i id then .ok (.nrm,s') else .ok (.exit i,s')
 |e=>.ok (e,s'):=rfl
theorem lZ (n:Nat) (c:Operand) (a b:Code) (s:St):exec tb (n+1) (.cond c a b) s=(ev s.t c).bind fun v=>match v with
 | .bool true=>exec tb n a s
 | .bool false=>exec tb n b s
 |_=>.no 330:=rfl
theorem pE (n:Nat) (c:Code) (s:St):exec tb (n+1) (.loop c) s=(exec tb n c s).bind fun(e,s')=>match e with
 | .nrm=>exec tb n (.loop c) s'
 |e=>.ok (e,s'):=rfl
theorem xS {α:Type} (p:Bool) (x y:R α) (z:R α):(match Value.bool p with
 | .bool true=>x
 | .bool false=>y
 |_=>z)=if p=true then x else y:=by cases p<;>rfl
theorem ri (ops:List Oper) (s:St):dW tb ih ops [] s= .ok (.nrm,s):=rfl
theorem oT (ops l:List Oper) (dst:Option Tmp) (op:Op) (ty:TypeId) (pos:String) (after:Array Edge) (s:St):
 dW tb ih ops ({dst,op,type:=ty,pos,after,guard:=none}::l) s=dK tb ih {dst,op,type:=ty,pos,after,guard:=none} s (dW tb ih ops l):=rfl
section
variable (dst:Option Tmp) (ty:TypeId) (pos:String) (after:Array Edge) (g:Option (Nat×Bool)) (s:St) (k:St→R (Ex×St))
theorem yO (x:Operand):dK tb ih {dst,op:=.move x,type:=ty,pos,after,guard:=g} s k=(ev s.t x).bind fun v=>bQ s dst v k:=rfl
theorem qP (x:Operand):dK tb ih {dst,op:=.assign x,type:=ty,pos,after,guard:=g} s k=(ev s.t x).bind fun v=>bQ s dst v k:=rfl
theorem R.a7 {α β γ:Type} (x:R α) (f:α→R β) (h:β→R γ):(x.bind f).bind h=x.bind fun a=>(f a).bind h:=by cases x<;>rfl
theorem i_ {o:Op} (hc:cls tb o= .P) (hi:iB o=none):dK tb ih {dst,op:=o,type:=ty,pos,after,guard:=g} s k=(uM tb s.t o).bind fun v=>bQ s dst v k:=by
 unfold dK;simp only [hi,hc]
theorem nc {o:Op} (hc:cls tb o= .Rd) (hi:iB o=none):dK tb ih {dst,op:=o,type:=ty,pos,after,guard:=g} s k=(nz tb s.t s.m.get o).bind fun v=>bQ s dst v k:=by
 unfold dK;simp only [hi,hc]
theorem uB {o:Op} (hc:cls tb o= .Al) (hi:iB o=none):dK tb ih {dst,op:=o,type:=ty,pos,after,guard:=g} s k=(Du tb s.t o).bind fun(ob,way)=>bQ {s with m:=s.m.alloc ob} dst (way.at s.m.next) k:=by
 unfold dK;simp only [hi,hc]
theorem CQ (op:BinOp) (t:TypeId) (x y:Operand) (r:TypeId) (hc:cls tb (.binOp op t x y r)= .P):dK tb ih {dst,op:=.binOp op t x y r,type:=ty,pos,after,guard:=g} s k=
 (ev s.t x).bind fun a=>(ev s.t y).bind fun b=>(ik op (tb.bp t) a b).bind fun v=>bQ s dst v k:=by
 rw [i_ _ _ _ _ _ _ _ hc rfl];simp only [uM,R.a7]
def Rj:BinOp→Bool
 | .eql| .neq=>false
 |_=>true
theorem CP (op:BinOp) (t:TypeId) (x y:Operand) (r:TypeId) (h:Rj op=true):dK tb ih {dst,op:=.binOp op t x y r,type:=ty,pos,after,guard:=g} s k=
 (ev s.t x).bind fun a=>(ev s.t y).bind fun b=>(ik op (tb.bp t) a b).bind fun v=>bQ s dst v k:=
 CQ _ _ _ _ _ _ _ _ _ _ _ _ (by cases op<;>first|rfl|cases h)
theorem CU (t:TypeId) (x y:Operand) (r:TypeId) (h:lh (tb.bp t)=true):dK tb ih {dst,op:=.binOp .neq t x y r,type:=ty,pos,after,guard:=g} s k=
 (ev s.t x).bind fun a=>(ev s.t y).bind fun b=>(ik .neq (tb.bp t) a b).bind fun v=>bQ s dst v k:=
 CQ _ _ _ _ _ _ _ _ _ _ _ _ (by unfold cls;simp only [h,cond_true])
theorem CS (t:TypeId) (x y:Operand) (r:TypeId) (h:lh (tb.bp t)=true):dK tb ih {dst,op:=.binOp .eql t x y r,type:=ty,pos,after,guard:=g} s k=
 (ev s.t x).bind fun a=>(ev s.t y).bind fun b=>(ik .eql (tb.bp t) a b).bind fun v=>bQ s dst v k:=
 CQ _ _ _ _ _ _ _ _ _ _ _ _ (by unfold cls;simp only [h,cond_true])
theorem G_ (op:UnOp) (t:TypeId) (x:Operand):dK tb ih {dst,op:=.unOp op t x,type:=ty,pos,after,guard:=g} s k=(ev s.t x).bind fun a=>(VV op a).bind fun v=>bQ s dst v k:=by
 rw [i_ _ _ _ _ _ _ _ rfl rfl];simp only [uM,R.a7]
theorem uF (t:TypeId) (x y:Operand):dK tb ih {dst,op:=.index t x y,type:=ty,pos,after,guard:=g} s k=(ev s.t x).bind fun a=>(ev s.t y).bind fun b=>(mY tb t a b).bind fun v=>bQ s dst v k:=by
 rw [i_ _ _ _ _ _ _ _ rfl rfl];simp only [uM,R.a7]
theorem lA (t:TypeId) (x:Tmp) (y:Operand):dK tb ih {dst,op:=.indexAddr t (.tmp x) y,type:=ty,pos,after,guard:=g} s k=(ev s.t (.tmp x)).bind fun a=>(ev s.t y).bind fun b=>(aW tb t a b).bind fun v=>bQ s dst v k:=by
 rw [i_ _ _ _ _ _ _ _ rfl rfl];simp only [uM,R.a7]
theorem lv (t:TypeId) (x:Operand) (i:Nat):dK tb ih {dst,op:=.fieldAddr t x i,type:=ty,pos,after,guard:=g} s k=(ev s.t x).bind fun a=>(ak tb t a i).bind fun v=>bQ s dst v k:=by
 rw [i_ _ _ _ _ _ _ _ rfl rfl];simp only [uM,R.a7]
theorem uE (t:TypeId) (x:Operand) (i:Nat):dK tb ih {dst,op:=.field t x i,type:=ty,pos,after,guard:=g} s k=(ev s.t x).bind fun a=>(um tb t a i).bind fun v=>bQ s dst v k:=by
 rw [i_ _ _ _ _ _ _ _ rfl rfl];simp only [uM,R.a7]
theorem uD (t:TypeId) (ps:Array (Nat×Operand)):dK tb ih {dst,op:=.build t ps,type:=ty,pos,after,guard:=g} s k=(GD s.t ps.toList).bind fun ps=>(cu tb t ps).bind fun v=>bQ s dst v k:=by
 rw [i_ _ _ _ _ _ _ _ rfl rfl];simp only [uM,R.a7]
theorem uG (t:TypeId) (x:Operand) (lo hi mx:Option Operand):dK tb ih {dst,op:=.slice t x lo hi mx,type:=ty,pos,after,guard:=g} s k=
 (ev s.t x).bind fun x=>(D_ s.t lo).bind fun lo=>(D_ s.t hi).bind fun hi=>(D_ s.t mx).bind fun mx=>(cP tb t x lo hi mx).bind fun v=>bQ s dst v k:=by
 rw [i_ _ _ _ _ _ _ _ rfl rfl];simp only [uM,R.a7]
def ya (x:Value) (i:Nat):R Value:=
 match x with
 | .tuple vs=>match vs.toList[i]? with
  |some v=>.ok v
  |none=>.no 211
 |_=>.no 212
theorem oR (x:Operand) (i:Nat):dK tb ih {dst,op:=.extract x i,type:=ty,pos,after,guard:=g} s k=(ev s.t x).bind fun a=>(ya a i).bind fun v=>bQ s dst v k:=by
 rw [i_ _ _ _ _ _ _ _ rfl rfl];simp only [uM,R.a7];rfl
def Jd (t:T Value) (c:Value) (a b:Operand):R Value:=
 match c with
 | .bool true=>ev t a
 | .bool false=>ev t b
 |_=>.no 207
theorem yQ (c a b:Operand):dK tb ih {dst,op:=.pick c a b,type:=ty,pos,after,guard:=g} s k=(ev s.t c).bind fun c=>(Jd s.t c a b).bind fun v=>bQ s dst v k:=by
 rw [i_ _ _ _ _ _ _ _ rfl rfl];simp only [uM,R.a7];rfl
theorem yN (t:TypeId) (x:Tmp):dK tb ih {dst,op:=.load t (.tmp x),type:=ty,pos,after,guard:=g} s k=(ev s.t (.tmp x)).bind fun a=>(ai tb s.m.get t a).bind fun v=>bQ s dst v k:=by
 rw [nc _ _ _ _ _ _ _ rfl rfl];simp only [nz,R.a7]
theorem uC (t:TypeId):dK tb ih {dst,op:=.alloc t,type:=ty,pos,after,guard:=g} s k=(bO tb t).bind fun z=>bQ {s with m:=s.m.alloc (aa t z.cells.toList)} dst (Way.ptr.at s.m.next) k:=by
 rw [uB _ _ _ _ _ _ _ rfl rfl];simp only [Du,R.a7,R.aw]
theorem CR (t:TypeId) (x:Operand):dK tb ih {dst,op:=.box t x,type:=ty,pos,after,guard:=g} s k=(ev s.t x).bind fun v=>bQ {s with m:=s.m.alloc (aa t v.cells.toList)} dst (Way.ptr.at s.m.next) k:=by
 rw [uB _ _ _ _ _ _ _ rfl rfl];simp only [Du,R.a7,R.aw]
theorem jX (t:TypeId) (len:Nat) (ps:Array (Nat×Operand)):dK tb ih {dst,op:=.buildSlice t len ps,type:=ty,pos,after,guard:=g} s k=
 (GD s.t ps.toList).bind fun ps=>(a9 tb t len ps).bind fun(ob,way)=>bQ {s with m:=s.m.alloc ob} dst (way.at s.m.next) k:=by
 rw [uB _ _ _ _ _ _ _ rfl rfl];simp only [Du,R.a7]
theorem lJ (t:TypeId) (l c:Operand):dK tb ih {dst,op:=.makeSlice t l c,type:=ty,pos,after,guard:=g} s k=
 (ev s.t l).bind fun l=>(ev s.t c).bind fun c=>(eT tb t l c).bind fun(ob,way)=>bQ {s with m:=s.m.alloc ob} dst (way.at s.m.next) k:=by
 rw [uB _ _ _ _ _ _ _ rfl rfl];simp only [Du,R.a7]
theorem uI (t:TypeId) (x v:Operand):dK tb ih {dst,op:=.store t x v,type:=ty,pos,after,guard:=g} s k=
 (ev s.t x).bind fun x=>(ev s.t v).bind fun v=>(aT tb s.m t x v).bind fun A=>bQ {s with m:=A} dst cQ k:=by
 unfold dK;show((GS tb s.t s.m (.store t x v)).bind fun(v,A)=>bQ {s with m:=A} dst v k)=_;simp only [GS,R.a7,R.aw]
def isNum:Option TypeDesc→Bool
 |some (.int _)=>true
 |_=>false
theorem yL (a b:TypeId) (x:Operand) (h:isNum (tb.bp a)=true):dK tb ih {dst,op:=.convert a b x,type:=ty,pos,after,guard:=g} s k=(ev s.t x).bind fun x=>(gB tb a b x).bind fun v=>bQ s dst v k:=by
 have hc:cls tb (.convert a b x)= .P:=by
  unfold cls;cases hu:tb.bp a with
  |none=>rw [hu] at h;cases h
  |some d=>
   rw [hu] at h;cases d<;>first
    |(cases h;done)
    |(simp only [hu];done)
    |(simp only [hu];cases tb.bp b with
     |none=>rfl
     |some d2=>cases d2<;>rfl)
 rw [i_ _ _ _ _ _ _ _ hc rfl];simp only [uM,R.a7]
theorem Ah (a b:TypeId) (x:Operand) {e:TypeId} (h:tb.bp a=some .string) (h':tb.bp b=some (.slice e)):dK tb ih {dst,op:=.convert a b x,type:=ty,pos,after,guard:=g} s k=
 (ev s.t x).bind fun x=>(kc tb a b x).bind fun(ob,way)=>bQ {s with m:=s.m.alloc ob} dst (way.at s.m.next) k:=by
 have hc:cls tb (.convert a b x)= .Al:=by unfold cls;simp only [h,h']
 rw [uB _ _ _ _ _ _ _ hc rfl];simp only [Du,R.a7]
theorem kY (a b:TypeId) (x:Operand) {e:TypeId} (h:tb.bp a=some (.slice e)) (h':tb.bp b=some .string):dK tb ih {dst,op:=.convert a b x,type:=ty,pos,after,guard:=g} s k=
 (ev s.t x).bind fun x=>(dw tb s.m.get a b x).bind fun v=>bQ s dst v k:=by
 have hc:cls tb (.convert a b x)= .Rd:=by unfold cls;simp only [h,h']
 rw [nc _ _ _ _ _ _ _ hc rfl];simp only [nz,R.a7]
def UG:Option TypeDesc→Bool
 |some (.map _ _)=>true
 |_=>false
theorem CT (args:Array Operand) (t:TypeId) (h:UG (tb.bp t)=false):dK tb ih {dst,op:=.call {callee:=.builtin .len,args,argTypes:= #[t]},type:=ty,pos,after,guard:=g} s k=
 (pC s.t args.toList).bind fun a=>(aL tb .len [t] a).bind fun v=>bQ s dst v k:=by
 have hc:cls tb (.call {callee:=.builtin .len,args,argTypes:= #[t]})= .P:=by
  unfold cls;cases hu:tb.bp t with
  |none=>simp only [hu]
  |some d=>rw [hu] at h;cases d<;>first|(simp only [hu];done)|cases h
 rw [i_ _ _ _ _ _ _ _ hc rfl];simp only [uM,R.a7]
theorem qQ (b:Builtin) (args:Array Operand) (ts:Array TypeId) (h:b= .min∨b= .max∨b= .cap):dK tb ih {dst,op:=.call {callee:=.builtin b,args,argTypes:=ts},type:=ty,pos,after,guard:=g} s k=
 (pC s.t args.toList).bind fun a=>(aL tb b ts.toList a).bind fun v=>bQ s dst v k:=by
 have hc:cls tb (.call {callee:=.builtin b,args,argTypes:=ts})= .P:=by rcases h with rfl|rfl|rfl<;>rfl
 rw [i_ _ _ _ _ _ _ _ hc rfl];simp only [uM,R.a7]
theorem oQ (b:Builtin) (args:Array Operand) (ts:Array TypeId) (h:b= .append∨b= .copy):dK tb ih {dst,op:=.call {callee:=.builtin b,args,argTypes:=ts},type:=ty,pos,after,guard:=g} s k=
 (pC s.t args.toList).bind fun a=>(gK tb s.m b ts.toList a).bind fun(v,A)=>bQ {s with m:=A} dst v k:=by
 rcases h with rfl|rfl
 all_goals
  unfold dK;show((GS tb s.t s.m (.call _)).bind fun(v,A)=>bQ {s with m:=A} dst v k)=_;simp only [GS,R.a7]
def OC (s:St) (dst:Option Tmp) (k:St→R (Ex×St)):FM→R (Ex×St)
 | .val v A=>bQ {s with m:=A} dst v k
 | .kh v A=>.ok (.kh v,{s with m:=A})
theorem yK (f:FuncId) (args:Array Operand) (ts:Array TypeId):dK tb ih {dst,op:=.call {callee:=.value (.func f),args,argTypes:=ts},type:=ty,pos,after,guard:=g} s k=
 (pC s.t args.toList).bind fun a=>(bc tb ih (.fn f a) s.m).bind fun r=>OC s dst k r:=by
 unfold dK;show((xQ tb s.t s.m.get {callee:=.value (.func f),args,argTypes:=ts}).bind fun cl=>(bc tb ih cl s.m).bind fun r=>match r with
  | .val v A=>bQ {s with m:=A} dst v k
  | .kh v A=>.ok (.kh v,{s with m:=A}))=_
 have hcl:xQ tb s.t s.m.get {callee:=.value (.func f),args,argTypes:=ts}=(pC s.t args.toList).bind fun a=>.ok (.fn f a):=by
  unfold xQ;cases pC s.t args.toList with
  |no _=>rfl
  |ok a=>simp only [R.aw,ev,iL,qac,qap]
 rw [hcl];simp only [R.a7,R.aw];cases pC s.t args.toList with
 |no _=>rfl
 |ok a=>
  simp only [R.aw];cases bc tb ih (.fn f a) s.m with
  |no _=>rfl
  |ok r=>cases r<;>rfl
end
theorem filter_none {α:Type} (l:List α):l.filter (fun _=>false)=[]:=by simp
theorem yr (A:Mem):eO [] A=A:=rfl
theorem E8 (ops:List Oper):∀(l:List Oper) (i:Nat) (mems:List (Nat×Mem)) (recs:List Rec) (mks:List (Nat×Nat)) (s:St),dV tb ih ops [] l i mems recs mks s=dW tb ih ops l s
 | [],_,_,_,_,_=>rfl
 |o::l,i,mems,recs,mks,s=>by
  show((fq ops o s.t).bind fun w=>
   bif w then
    match cls tb o.op with
    | .L=>dK tb ih o {s with m:=eO ((mks.filter fun x=>bZ x.1 i []).map (·.2)) s.m} fun s'=>
     (fT s.m.get ((mks.filter fun x=>bZ x.1 i []).map (·.2)) s'.m).bind fun A=>
     bif (recs.filter fun x=>bZ x.i i []).all (ef tb A.get) then dV tb ih ops [] l (i+1) ((i,s.m)::mems) recs mks {s' with m:=A} else .no 310
    | .Rd=>(nz tb s.t s.m.get o.op).bind fun v=>
     bif (mems.filter fun m=>bZ i m.1 []).all (fun m=>ef tb m.2.get ⟨i,s.t,o.op,v⟩) then bQ s o.dst v (dV tb ih ops [] l (i+1) mems (⟨i,s.t,o.op,v⟩::recs) mks) else .no 311
    | .Al=>dK tb ih o s fun s'=>dV tb ih ops [] l (i+1) (xy s.m.next (s'.m.get s.m.next) mems) recs ((i,s.m.next)::mks) s'
    | .P=>dK tb ih o s (dV tb ih ops [] l (i+1) mems recs mks)
   else bQ s o.dst cQ (dV tb ih ops [] l (i+1) mems recs mks))=((fq ops o s.t).bind fun w=>bif w then dK tb ih o s (dW tb ih ops l) else bQ s o.dst cQ (dW tb ih ops l))
  have e:∀i mems recs mks,dV tb ih ops [] l i mems recs mks=dW tb ih ops l:=fun i mems recs mks=>funext fun s=>E8 ops l i mems recs mks s
  have hp:∀a b:Nat,bZ a b []=false:=fun _ _=>rfl
  simp only [e,hp,filter_none,qc9,yr,fT,R.aw,List.all_nil,cond_true];cases fq ops o s.t with
  |no _=>rfl
  |ok w=>
   cases w with
   |false=>rfl
   |true=>
    simp only [R.aw,cond_true];cases hc:cls tb o.op with
    |Rd=>
     simp only
     unfold dK;have hi:iB o.op=none:=by
      cases ho:iB o.op with
      |none=>rfl
      |some c=>
       exfalso;unfold iB at ho;split at ho
       ·rename_i c' hop;rw [hop] at hc;unfold cls at hc;simp only at hc;split at hc
        ·rename_i hb;rw [hb] at ho;simp at ho
        ·cases hc
       ·cases ho
     simp only [hi,hc]
    |_=>rfl
def D5 (tb:bL) (ops:List Oper):Bool:=
 match gZ tb ops with
 | .ok []=>true
 |_=>false
variable {n:Nat} {ops:Array Oper}
theorem ue {id:Nat} {s:St} (h:D5 tb ops.toList=true):exec tb (n+1) (.region id ops true) s=(dW tb (exec tb n) ops.toList ops.toList s).bind fun(e,s)=>match e with
 | .nrm=>.ok (.nrm,s)
 |_=>.no 312:=by
 have h':gZ tb ops.toList= .ok []:=by
  unfold D5 at h;split at h
  ·assumption
  ·cases h
 show((gZ tb ops.toList).bind fun fl=>(dV tb (exec tb n) ops.toList fl ops.toList 0 [] [] [] s).bind fun(e,s)=>_)=_;rw [h'];simp only [R.aw,E8];rfl
theorem uN (s:St) (v:Value) (k:St→R (Ex×St)):bQ s none v k=k s:=rfl
variable {t:T Value} {i:Nat} {v:Value}
theorem uO {d:List Nat} {m:Mem} {ro:Option Nat} {k:St→R (Ex×St)} (h:i<n):bQ ⟨t,n,d,m,ro⟩ (some i) v k=k ⟨t.set i v,n,d,m,ro⟩:=by
 rw [Jh (by simpa using h)];rfl
theorem FX (b:Nat):Way.ptr.at b= .pointer (some ⟨b,0,none⟩):=rfl
theorem tN (b len cap:Nat):(Way.nO len cap).at b= .slice (some ⟨b,0,none⟩) len cap:=rfl
theorem rj {ops l:List Oper} {o:Oper} {s:St} (h:fq ops o s.t= .ok true):dW tb ih ops (o::l) s=dK tb ih o s (dW tb ih ops l):=by
 show((fq ops o s.t).bind fun w=>bif w then dK tb ih o s (dW tb ih ops l) else bQ s o.dst cQ (dW tb ih ops l))=_;rw [h];rfl
theorem uQ {ops l:List Oper} {o:Oper} {s:St} (h:fq ops o s.t= .ok false):dW tb ih ops (o::l) s=bQ s o.dst cQ (dW tb ih ops l):=by
 show((fq ops o s.t).bind fun w=>bif w then dK tb ih o s (dW tb ih ops l) else bQ s o.dst cQ (dW tb ih ops l))=_;rw [h];rfl
def FJ (want:Bool) (v:Option Value):R Bool:=
 match v with
 |some (.bool b)=>.ok (bif b then want else !want)
 |some (.tuple _)=>.ok false
 |some _=>.no 257
 |none=>.no 253
def xZ:List Oper→Nat→Option Tmp
 | [],_=>none
 |o::_,0=>o.dst
 |_::l,n+1=>xZ l n
theorem qI (o:Oper) (l:List Oper):xZ (o::l) 0=o.dst:=rfl
theorem qH (o:Oper) (l:List Oper) (n:Nat):xZ (o::l) (n+1)=xZ l n:=rfl
theorem D6:∀(l:List Oper) (j:Nat) (d:Tmp),xZ l j=some d→∃o,l[j]?=some o∧o.dst=some d
 | [],_,_,h=>by cases h
 |o::_,0,_,h=>⟨o,rfl,h⟩
 |_::l,n+1,d,h=>by
  obtain⟨o,h1,h2⟩:=D6 l n d h;exact⟨o,by simpa using h1,h2⟩
def PY (ops:List Oper) (o:Oper) (want:Bool) (t:T Value) (d:Option Tmp):R Bool:=
 match d with
 |some d=>FJ want (t.get d)
 |none=>fq ops o t
theorem pd (ops:List Oper) (dst:Option Tmp) (op:Op) (ty:TypeId) (pos:String) (after:Array Edge) (j:Nat) (want:Bool) (t:T Value):
 fq ops {dst,op,type:=ty,pos,after,guard:=some (j,want)} t=PY ops {dst,op,type:=ty,pos,after,guard:=some (j,want)} want t (xZ ops j):=by
 cases hd:xZ ops j with
 |none=>rfl
 |some d=>
  obtain⟨o,h1,h2⟩:=D6 ops j d hd;unfold fq PY FJ;simp only [h1,h2];rfl
theorem rG (ops:List Oper) (o:Oper) (want:Bool) (t:T Value) (d:Tmp):PY ops o want t (some d)=FJ want (t.get d):=rfl
theorem rH (want b:Bool):FJ want (some (.bool b))= .ok (bif b then want else !want):=rfl
theorem rI (want:Bool) (x:Array Value):FJ want (some (.tuple x))= .ok false:=rfl
def YO (v:Option Value):R Value:=
 match v with
 |some v=>.ok v
 |none=>.no 200
theorem im (t:T Value) (i:Nat):ev t (.tmp i)=YO (t.get i):=rfl
theorem eH (v:Value):YO (some v)= .ok v:=rfl
theorem GA (t:T Value) (k:IntKind) (n:Nat):ev t (.const (.int k (no_index (OfNat.ofNat n))))= .ok (.int k ((OfNat.ofNat n:Nat):Int)):=rfl
theorem Cq (t:T Value) (b:Bool):ev t (.const (.bool b))= .ok (.bool b):=rfl
theorem xA {op:BinOp} {d:Option TypeDesc} {k:IntKind} {a b:Int} (h1:op≠ .shl) (h2:op≠ .shr):ik op d (.int k a) (.int k b)=aK op k a b:=by
 have hk:dU k k=true:=by cases k<;>rfl
 unfold ik;cases op<;>first|exact absurd rfl h1|exact absurd rfl h2|(simp only [hk,cond_true])
variable {b:Nat}
theorem uK {k:IntKind} {a:Nat} (h:0<b):aK .rem k (a:Int) (b:Int)= .ok (.int k ((a % b:Nat):Int)):=by
 obtain⟨c,rfl⟩:∃c,b=c+1:=⟨b-1,by omega⟩;rfl
theorem pI (h:n<4294967296):iA .u32 (n:Int)=true:=by
 show Zt n 4294967296=true;rw [ZB];exact h
theorem jh (h:n<256):iA .u8 (n:Int)=true:=by
 show Zt n 256=true;rw [ZB];exact h
theorem aR (h:n<9223372036854775808):iA .i64 (n:Int)=true:=by
 show Zt n 9223372036854775808=true;rw [ZB];exact h
theorem qZ {a:Nat} (h:0<b) (ha:a<4294967296):aK .quo .u32 (a:Int) (b:Int)= .ok (.int .u32 (a/b:Nat)):=by
 obtain⟨c,rfl⟩:∃c,b=c+1:=⟨b-1,by omega⟩;show R.ok (Value.int .u32 (dp .u32 ((a/(c+1):Nat):Int)))=_;unfold dp;rw [pI (qan (Nat.div_le_self ..) ha)];rfl
theorem re {a:Nat} (ha:a<4294967296) (hb:b<4294967296):aK .xor .u32 (a:Int) (b:Int)= .ok (.int .u32 (a^^^b:Nat)):=by
 show(bif iA .u32 (a:Int)&&iA .u32 (b:Int) then R.ok (Value.int .u32 (a^^^b:Nat)) else .no 12)=_;rw [pI ha,pI hb];rfl
theorem Hb {k:IntKind} {a:Nat}:aK .neq k (a:Int) (b:Int)= .ok (.bool (decide (a≠b))):=by
 show R.ok (Value.bool (!Zr a b))=_;congr 2;cases h:Zr a b with
 |true=>simp [ZA h]
 |false=>simp [qcB h]
theorem CV {k:IntKind} {a:Nat}:aK .lss k (a:Int) (b:Int)= .ok (.bool (decide (a<b))):=by
 show R.ok (Value.bool (Zt a b))=_;congr 2;rw [qaE];simp [ZB]
theorem qR {a:Nat} (h:a+b<9223372036854775808):aK .add .i64 (a:Int) (b:Int)= .ok (.int .i64 (a+b:Nat)):=by
 show R.ok (Value.int .i64 (dp .i64 ((a+b:Nat):Int)))=_;unfold dp;rw [aR h];rfl
end
section
variable {tb:bL} {ih:Code→St→R (Ex×St)}
theorem mF (n:Nat):dp .u8 (n:Int)=((n % 256:Nat):Int):=by
 rw [eL];simp [IntKind.wrap,IntKind.signed,IntKind.bits]
theorem pT (n:Nat):dp .u32 (n:Int)=((n % 4294967296:Nat):Int):=by
 rw [eL];simp [IntKind.wrap,IntKind.signed,IntKind.bits]
variable {n:Nat}
theorem vi (h:n<9223372036854775808):dp .i64 (n:Int)=(n:Int):=by
 unfold dp;rw [aR h];rfl
theorem G6 (h:n<256):n % 256=n:=qaG h
theorem xi (h:n<4294967296):n % 4294967296=n:=qaG h
variable {b:Nat}
theorem uJ {a:Nat} (ha:a<256) (hb:b<256):aK .and .u8 (a:Int) (b:Int)= .ok (.int .u8 (a&&&b:Nat)):=by
 show(bif iA .u8 (a:Int)&&iA .u8 (b:Int) then R.ok (Value.int .u8 (a&&&b:Nat)) else .no 10)=_;rw [jh ha,jh hb];rfl
theorem uL {a:Nat} (ha:a<256) (hb:b<256):aK .xor .u8 (a:Int) (b:Int)= .ok (.int .u8 (a^^^b:Nat)):=by
 show(bif iA .u8 (a:Int)&&iA .u8 (b:Int) then R.ok (Value.int .u8 (a^^^b:Nat)) else .no 12)=_;rw [jh ha,jh hb];rfl
theorem rb {a:Nat} (h:b≤a) (ha:a<4294967296):aK .sub .u32 (a:Int) (b:Int)= .ok (.int .u32 (a-b:Nat)):=by
 show R.ok (Value.int .u32 (dp .u32 ((a:Int)-(b:Int))))=_;rw [show(a:Int)-(b:Int)=((a-b:Nat):Int) by omega,pT,xi (by omega)]
theorem q_ {a:Nat} (h:b≤a) (ha:a<9223372036854775808):aK .sub .i64 (a:Int) (b:Int)= .ok (.int .i64 (a-b:Nat)):=by
 show R.ok (Value.int .i64 (dp .i64 ((a:Int)-(b:Int))))=_;rw [show(a:Int)-(b:Int)=((a-b:Nat):Int) by omega,vi (by omega)]
theorem Ha {k:IntKind} {a:Nat}:aK .eql k (a:Int) (b:Int)= .ok (.bool (decide (a=b))):=by
 show R.ok (Value.bool (Zr a b))=_;congr 2;cases h:Zr a b with
 |true=>simp [ZA h]
 |false=>simp [qcB h]
theorem qX (h:n<4294967296):VV .xor (.int .u32 n)= .ok (.int .u32 (4294967295-n:Nat)):=by
 show(bif IntKind.signed .u32 then R.no 26 else bif iA .u32 (n:Int) then R.ok (Value.int .u32 (.ofNat (2^IntKind.bits .u32-1-n))) else .no 26)=_;rw [pI h];rfl
variable {k':IntKind}
theorem DK {d:Option TypeDesc} {k:IntKind} {a:Nat} (h:b<k.bits):ik .shr d (.int k (a:Int)) (.int k' (b:Int))= .ok (.int k ((a>>>b:Nat):Int)):=by
 have e:ik .shr d (.int k (a:Int)) (.int k' (b:Int))=R.ok (Value.int k (.ofNat (qdG a (bif Zt b k.bits then b else k.bits)))):=by cases k<;>rfl
 rw [e];have:Zt b k.bits=true:=by rw [ZB];exact h
 rw [this];rfl
theorem mM {d:Option TypeDesc} {a:Nat} (h:b<32):ik .shr d (.int .u32 a) (.int k' (b:Int))= .ok (.int .u32 (a>>>b:Nat)):=DK h
theorem n7 {d:Option TypeDesc} {a:Nat} (h:b<8):ik .shr d (.int .u8 a) (.int k' (b:Int))= .ok (.int .u8 (a>>>b:Nat)):=DK h
theorem qW {a:Nat} (h:a*b<9223372036854775808):aK .mul .i64 (a:Int) (b:Int)= .ok (.int .i64 (a*b:Nat)):=by
 show R.ok (Value.int .i64 (dp .i64 ((a:Int)*(b:Int))))=_;rw [←Int.natCast_mul,vi h]
theorem ra {a:Nat} (h:a<b) (hb:b<9223372036854775808):aK .sub .i64 (a:Int) (b:Int)= .ok (.int .i64 (-((b-a:Nat):Int))):=by
 show R.ok (Value.int .i64 (dp .i64 ((a:Int)-(b:Int))))=_;rw [show(a:Int)-(b:Int)=-((b-a:Nat):Int) by omega,eL,k_ (by show(-9223372036854775808:Int)≤_;omega) (by show _≤(9223372036854775807:Int);omega)]
theorem qU {k:IntKind} {a:Nat} (h:0<a):aK .lss k (-(a:Int)) (b:Int)= .ok (.bool true):=by
 obtain⟨c,rfl⟩:∃c,a=c+1:=⟨a-1,by omega⟩;rfl
theorem tw {a b:List UInt8} (h:a.length+b.length<4611686018427387904):db .add a b= .ok (strOf (a++b)):=by
 unfold db;have:Zt (a.length+b.length) 4611686018427387904=true:=by rw [ZB];exact h
 simp only [this,cond_true]
theorem Dl {a b:List UInt8}:db .neq a b= .ok (.bool (decide (a≠b))):=by
 unfold db;simp only [dk];congr 2;by_cases h:a=b<;>simp [h]
theorem Dk {a b:List UInt8}:db .eql a b= .ok (.bool (decide (a=b))):=by
 unfold db;simp only [dk];congr 2;by_cases h:a=b<;>simp [h]
variable {d:Nat}
theorem eQ {k:IntKind} {most:Nat} (h:n≤most):bound (some (.int k (n:Int))) d most= .ok n:=by
 unfold bound;show(bif Zj n most then R.ok n else .no 31)=_;rw [qaf h];rfl
theorem gA {most:Nat}:bound none d most= .ok d:=rfl
theorem Bx {tb:bL} {t:TypeId} {l:List UInt8} {lo hi:Option Value} {a:Nat} (ht:tb.bp t=some .string) (h1:bound hi l.length l.length= .ok b) (h2:bound lo 0 b= .ok a):cP tb t (strOf l) lo hi none= .ok (strOf ((l.take b).drop a)):=by
 unfold cP strOf;simp only [ht,h1,h2,R.aw]
theorem oW {tb:bL} {t:TypeId} {l:List UInt8} {k:IntKind} (ht:tb.bp t=some .string) (h:n≤l.length):cP tb t (strOf l) none (some (.int k (n:Int))) none= .ok (strOf (l.take n)):=by
 rw [Bx ht (eQ h) gA];rfl
theorem zx {tb:bL} {t:TypeId} {l:List UInt8} {k:IntKind} (ht:tb.bp t=some .string) (h:n≤l.length):cP tb t (strOf l) (some (.int k (n:Int))) none none= .ok (strOf (l.drop n)):=by
 rw [Bx ht gA (eQ h),ZL]
variable {i:Nat}
theorem eg {t:TypeId} {l:List UInt8} {kd:IntKind} (ht:tb.bp t=some .string) (h:i<l.length):mY tb t (strOf l) (.int kd (i:Int))= .ok (.int .u8 ((l.getD i 0).toNat:Nat)):=by
 unfold mY strOf;simp only [ht];show(match l[i]? with|some b=>R.ok (Value.int .u8 (.ofNat b.toNat))|none=>.no 53)=_;rw [Zi h];simp [List.getD,Zi h]
theorem cd {t:TypeId} {l:List UInt8} (ht:tb.bp t=some .string):aL tb .len [t] [strOf l]= .ok (.int .i64 (l.length:Nat)):=by
 unfold aL EE strOf;simp only [ht];rfl
theorem B3 (b:UInt8):b.toNat<256:=b.toNat_lt
theorem Bz (s:ByteArray):Value.string s=strOf s.data.toList:=rfl
theorem GC (t:T Value) (s:ByteArray):ev t (.const (.string s))= .ok (strOf s.data.toList):=rfl
theorem xC {op:BinOp} {d:Option TypeDesc} {a b:List UInt8}:ik op d (strOf a) (strOf b)=db op a b:=rfl
def sub:Code→List Nat→Code
 | .seq a b,i::l=>bif Zr i 0 then sub a l else sub b l
 | .cond _ a b,i::l=>bif Zr i 0 then sub a l else sub b l
 | .block _ c,_::l=>sub c l
 | .loop c,_::l=>sub c l
 | .scope c,_::l=>sub c l
 | .rangeFunc _ _ a b,i::l=>bif Zr i 0 then sub a l else sub b l
 |c,_=>c
theorem Dm (c:Code):sub c []=c:=by cases c<;>rfl
theorem zH (a b:Code) (l:List Nat):sub (.seq a b) (0::l)=sub a l:=rfl
theorem zJ (a b:Code) (l:List Nat):sub (.seq a b) (1::l)=sub b l:=rfl
theorem uY (x:Operand) (a b:Code) (l:List Nat):sub (.cond x a b) (0::l)=sub a l:=rfl
theorem uZ (x:Operand) (a b:Code) (l:List Nat):sub (.cond x a b) (1::l)=sub b l:=rfl
theorem uX (i:Nat) (c:Code) (l:List Nat):sub (.block i c) (0::l)=sub c l:=rfl
theorem zF (c:Code) (l:List Nat):sub (.loop c) (0::l)=sub c l:=rfl
theorem u6 (c:Code) (l:List Nat):sub (.scope c) (0::l)=sub c l:=rfl
theorem rn (f:Operand) (ps:Array Tmp) (a b:Code) (l:List Nat):sub (.rangeFunc f ps a b) (0::l)=sub a l:=rfl
theorem rp (f:Operand) (ps:Array Tmp) (a b:Code) (l:List Nat):sub (.rangeFunc f ps a b) (1::l)=sub b l:=rfl
theorem na (n:Nat):Zr n n=true:=by simp
theorem m_ {tb:bL} {ts:List TypeId} {a:Nat}:aL tb .min ts [.int .i64 a,.int .i64 b]= .ok (.int .i64 (min a b:Nat)):=by
 have e:aL tb .min ts [.int .i64 a,.int .i64 b]= .ok (.int .i64 (bif Zt b a then(b:Int) else(a:Int))):=by
  cases ts<;>rfl
 rw [e];cases h:Zt b a with
 |true=>
  have:b<a:=by simpa [ZB] using h
  rw [qby (by omega)];rfl
 |false=>
  have:¬b<a:=by intro hx;rw [←ZB,h] at hx;cases hx
  rw [qam (by omega)];rfl
theorem DN {a b:Bool}:ik .eql (some .bool) (.bool a) (.bool b)= .ok (.bool (a==b)):=by cases a<;>cases b<;>rfl
theorem qY {a:Nat} (h:0<b) (ha:a<9223372036854775808):aK .quo .i64 (a:Int) (b:Int)= .ok (.int .i64 (a/b:Nat)):=by
 obtain⟨c,rfl⟩:∃c,b=c+1:=⟨b-1,by omega⟩;show R.ok (Value.int .i64 (dp .i64 ((a/(c+1):Nat):Int)))=_;rw [vi (qan (Nat.div_le_self ..) ha)]
theorem qT {a:Nat} (ha:a<4294967296) (hb:b<4294967296):aK .and .u32 (a:Int) (b:Int)= .ok (.int .u32 (a&&&b:Nat)):=by
 show(bif iA .u32 (a:Int)&&iA .u32 (b:Int) then R.ok (Value.int .u32 (a&&&b:Nat)) else .no 10)=_;rw [pI ha,pI hb];rfl
theorem n6 {d:Option TypeDesc} {a:Nat} (h:b<8):ik .shl d (.int .u8 a) (.int k' (b:Int))= .ok (.int .u8 (a<<<b % 256:Nat)):=by
 have e:ik .shl d (.int .u8 a) (.int k' (b:Int))=(bif Zt b 8 then R.ok (Value.int .u8 (dp .u8 ((a<<<b:Nat):Int))) else .ok (.int .u8 0)):=rfl;have hb:Zt b 8=true:=by rw [ZB];exact h
 rw [e,hb,cond_true,mF]
variable {f:FuncId} {fn:Func} {A A':Mem} {v:Value}
theorem bW {c:Code} {h:List Value→Mem→R (Value×Mem)} {args:List Value} (hf:tb.fn.get f=some fn) (hn:(fn.name== "runtime.NumGoroutine")=false) (hb:fn.body=some c)
 (hk:tb.hk.get f=some h) (hv:h args A= .ok (v,A')):bc tb ih (.fn f args) A= .ok (.val v A'):=by
 unfold bc;simp only [hf,hn,hb,hk,hv,cond_false,R.aw]
end
section
variable {tb:bL}
def W (tb:bL) (c:Code) (s:St) (K:Ex→St→Prop):Prop:=∃e s',(∃f,∀m,exec tb (m+f) c s= .ok (e,s'))∧K e s'
theorem W.run {c:Code} {s:St} {K:Ex→St→Prop} (f:Nat) {e:Ex} {s':St} (h:∀m,exec tb (m+f) c s= .ok (e,s')) (k:K e s'):W tb c s K:=⟨e,s',⟨f,h⟩,k⟩
theorem W.mono {c:Code} {s:St} {K K':Ex→St→Prop} (h:W tb c s K) (hk:∀e s',K e s'→K' e s'):W tb c s K':=by
 obtain⟨e,s',h1,h2⟩:=h;exact⟨e,s',h1,hk _ _ h2⟩
def V6 (tb:bL) (b:Code) (K:Ex→St→Prop) (e:Ex) (s:St):Prop:=
 match e with
 | .nrm=>W tb b s K
 |e=>K e s
theorem W.seq {a b:Code} {s:St} {K:Ex→St→Prop} (h:W tb a s (V6 tb b K)):W tb (.seq a b) s K:=by
 obtain⟨e,s1,⟨f,h1⟩,h2⟩:=h;cases e with
 |nrm=>
  obtain⟨e2,s2,⟨g,h3⟩,h4⟩:=h2;refine⟨e2,s2,⟨f+g+1,fun m=>?_⟩,h4⟩;have e1:=h1 (m+g);have e2':=h3 (m+f);rw [show m+(f+g+1)=(m+g+f)+1 by omega,oA,e1,R.aw];show exec tb (m+g+f) b s1=_;rw [show m+g+f=m+f+g by omega];exact e2'
 |_=>exact⟨_,s1,⟨f+1,fun m=>by rw [show m+(f+1)=(m+f)+1 by omega,oA,h1];rfl⟩,h2⟩
def YK (id:Nat) (K:Ex→St→Prop) (e:Ex) (s:St):Prop:=
 match e with
 | .exit i=>if i=id then K .nrm s else K (.exit i) s
 |e=>K e s
theorem W.block {id:Nat} {c:Code} {s:St} {K:Ex→St→Prop} (h:W tb c s (YK id K)):W tb (.block id c) s K:=by
 obtain⟨e,s1,⟨f,h1⟩,h2⟩:=h;cases e with
 |exit i=>
  unfold YK at h2;simp only at h2;by_cases hi:i=id
  ·subst hi;rw [if_pos rfl] at h2;exact⟨.nrm,s1,⟨f+1,fun m=>by rw [show m+(f+1)=(m+f)+1 by omega,ir,h1];simp [R.aw]⟩,h2⟩
  ·rw [if_neg hi] at h2;have hb:Zr i id=false:=by
    cases hq:Zr i id with
    |false=>rfl
    |true=>exact absurd (ZA hq) hi
   exact⟨.exit i,s1,⟨f+1,fun m=>by rw [show m+(f+1)=(m+f)+1 by omega,ir,h1];simp [R.aw,hb]⟩,h2⟩
 |_=>exact⟨_,s1,⟨f+1,fun m=>by rw [show m+(f+1)=(m+f)+1 by omega,ir,h1];rfl⟩,h2⟩
theorem W.scope {c:Code} {s:St} {K:Ex→St→Prop} (h:W tb c s K):W tb (.scope c) s K:=by
 obtain⟨e,s1,⟨f,h1⟩,h2⟩:=h;exact⟨e,s1,⟨f+1,fun m=>by rw [show m+(f+1)=(m+f)+1 by omega,mW,h1]⟩,h2⟩
theorem W.cond {c:Operand} {a b:Code} {s:St} {K:Ex→St→Prop} {p:Bool} (hp:ev s.t c= .ok (.bool p)) (ha:p=true→W tb a s K) (hb:p=false→W tb b s K):W tb (.cond c a b) s K:=by
 cases p with
 |true=>
  obtain⟨e,s1,⟨f,h1⟩,h2⟩:=ha rfl;exact⟨e,s1,⟨f+1,fun m=>by rw [show m+(f+1)=(m+f)+1 by omega,lZ,hp,R.aw];exact h1 m⟩,h2⟩
 |false=>
  obtain⟨e,s1,⟨f,h1⟩,h2⟩:=hb rfl;exact⟨e,s1,⟨f+1,fun m=>by rw [show m+(f+1)=(m+f)+1 by omega,lZ,hp,R.aw];exact h1 m⟩,h2⟩
theorem W.round {c:Code} {s:St} {K:Ex→St→Prop} (h:W tb c s (V6 tb (.loop c) K)):W tb (.loop c) s K:=by
 obtain⟨e,s1,⟨f,h1⟩,h2⟩:=h;cases e with
 |nrm=>
  obtain⟨e2,s2,⟨g,h3⟩,h4⟩:=h2;refine⟨e2,s2,⟨f+g+1,fun m=>?_⟩,h4⟩;rw [show m+(f+g+1)=(m+g+f)+1 by omega,pE,h1,R.aw];show exec tb (m+g+f) (.loop c) s1=_;rw [show m+g+f=m+f+g by omega];exact h3 (m+f)
 |_=>exact⟨_,s1,⟨f+1,fun m=>by rw [show m+(f+1)=(m+f)+1 by omega,pE,h1];rfl⟩,h2⟩
theorem W.loop {c:Code} {K:Ex→St→Prop} (P:St→Prop) (μ:St→Nat) (hb:∀s,P s→W tb c s fun e s'=>match e with
 | .nrm=>P s'∧μ s'<μ s
 |e=>K e s'):∀{s:St},P s→W tb (.loop c) s K:=by
 have main:∀n s,μ s=n→P s→W tb (.loop c) s K:=by
  intro n
  induction n using qbL with
  |ind n ih=>
   intro s hn hp;obtain⟨e,s1,⟨f,h1⟩,h2⟩:=hb s hp;cases e with
   |nrm=>
    obtain⟨e2,s2,⟨g,h3⟩,h4⟩:=ih _ (by rw [←hn];exact h2.2) s1 rfl h2.1;refine⟨e2,s2,⟨f+g+1,fun m=>?_⟩,h4⟩;have e1:=h1 (m+g);rw [show m+(f+g+1)=(m+g+f)+1 by omega,pE,e1,R.aw];show exec tb (m+g+f) (.loop c) s1=_;rw [show m+g+f=m+f+g by omega];exact h3 (m+f)
   |_=>exact⟨_,s1,⟨f+1,fun m=>by rw [show m+(f+1)=(m+f)+1 by omega,pE,h1];rfl⟩,h2⟩
 exact fun {s} hp=>main _ s rfl hp
def jq (tb:bL) (f:FuncId) (args:List Value) (A:Mem) (v:Value) (A':Mem):Prop:=∃n,call tb n f args A= .ok (.val v A')
variable {f:FuncId} {fn:Func} {A:Mem}
theorem tX {c:Code} {args:List Value} {Q:Value→Mem→Prop} (hf:tb.fn.get f=some fn) (hb:fn.body=some c) (hn:args.length≤fn.ntmps)
 (h:W tb c ⟨T.bR .e 0 args,fn.ntmps,[],A,none⟩ fun e s=>(e= .nrm∨e= .ret)∧∃A' vs,fc s.d s.m= .ok A'∧fj tb s.t A'.get fn.results.toList= .ok vs∧Q (oneOf vs) A'):
 ∃v A',jq tb f args A v A'∧Q v A':=by
 obtain⟨e,s1,⟨g,h1⟩,he,A',vs,h2,h3,h4⟩:=h;refine⟨_,A',⟨g,?_⟩,h4⟩;unfold call;simp only [hf,hb];unfold nt;have hb:Zj args.length fn.ntmps=true:=by rw [qct];exact hn
 rw [hb,cond_true];have:=h1 0;rw [ZT] at this;rw [this,R.aw];rcases he with rfl|rfl<;>simp only [h2,h3,R.aw]
theorem xN {c:Code} {args:List Value} {Q:Value→Mem→Prop} (hf:tb.fn.get f=some fn) (hb:fn.body=some c) (hn:args.length≤fn.ntmps) (hnm:(fn.name== "runtime.NumGoroutine")=false) (hk:tb.hk.get f=none)
 (h:W tb c ⟨T.bR .e 0 args,fn.ntmps,[],A,none⟩ fun e s=>(e= .nrm∨e= .ret)∧∃A' vs,fc s.d s.m= .ok A'∧fj tb s.t A'.get fn.results.toList= .ok vs∧Q (oneOf vs) A'):
 ∃v A',(∃g,∀m,bc tb (exec tb (m+g)) (.fn f args) A= .ok (.val v A'))∧Q v A':=by
 obtain⟨e,s1,⟨g,h1⟩,he,A',vs,h2,h3,h4⟩:=h;refine⟨_,A',⟨g,fun m=>?_⟩,h4⟩;unfold bc;simp only [hf,hb,hnm,hk,cond_false];unfold nt;have hb:Zj args.length fn.ntmps=true:=by rw [qct];exact hn
 rw [hb,cond_true,h1,R.aw];rcases he with rfl|rfl<;>simp only [h2,h3,R.aw]
end
section
variable {tb:bL}
theorem fR {α:Type} (t:T α):∀(n i:Nat) (l:List α),l.length=n→(∀j,j<n→t.get (i+j)=l[j]?)→t.iX n i=some l
 |0,i,l,hl,_=>by
  have:l=[]:=Zw.1 hl;rw [this];rfl
 |n+1,i,[],hl,_=>by simp at hl
 |n+1,i,x::l,hl,h=>by
  rw [T.AW];have h0:=h 0 (by omega);simp only [Z8,Zm] at h0;have ht:t.iX n (i+1)=some l:=fR t n (i+1) l (by simpa using hl) fun j hj=>by
   have:=h (j+1) (by omega);rw [show i+1+j=i+(j+1) by omega,this];simp
  rw [h0,ht]
theorem Kv {α:Type} (l:List α):(T.bR .e 0 l).iX l.length 0=some l:=
 fR _ _ _ _ rfl fun j hj=>by
  rw [T.eI,ZT,if_pos (by omega)];simp
theorem iR:∀(l:List UInt8),bytesOf (l.map eC)= .ok l
 | []=>rfl
 |b::l=>by
  show(bytesOf (l.map eC)).bind (fun r=>R.ok (qaD b.toNat::r))=_;rw [iR l,R.aw];simp
def Bytes (A:Mem) (b:Nat) (e:TypeId) (k:Kd) (l:List UInt8):Prop:=A.get b=some (.cells e k 0 (T.bR .e 0 (l.map eC)))
variable {A:Mem} {b:Nat}
theorem mT {e:TypeId} {k:Kd} {l:List UInt8} (h:Bytes A b e k l):cT A.get 1 l.length (some ⟨b,0,none⟩)= .ok (l.map eC):=by
 unfold cT;simp only [qaw];cases hn:Zr l.length 0 with
 |true=>
  have:l=[]:=Zw.1 (ZA hn);subst this;rfl
 |false=>
  have h':A.get b=_:=h;have hg:(T.bR .e 0 (l.map eC)).iX l.length 0=some (l.map eC):=by
   have:=Kv (l.map eC);rwa [Zp] at this
  simp only [cond_false,h',hg]
variable {c:Nat}
theorem tz {e:TypeId} {k:Kd} {l:List UInt8} {s d:TypeId} (h1:tb.bp s=some (.slice e)) (h2:tb.bp d=some .string) (h3:tb.bp e=some (.int .u8)) (h:Bytes A b e k l):
 dw tb A.get s d (.slice (some ⟨b,0,none⟩) l.length c)= .ok (strOf l):=by
 unfold dw;simp only [h1,h2,h3,iH,mT h,R.aw,iR]
theorem B5 {l:List UInt8} {s d e:TypeId} (h1:tb.bp s=some .string) (h2:tb.bp d=some (.slice e)) (h3:tb.bp e=some (.int .u8)) (hl:l.length<4294967296):
 kc tb s d (strOf l)= .ok (.cells e .mark 0 (T.bR .e 0 (l.map eC)),.nO l.length (gO l.length 1)):=by
 unfold kc strOf;have:Zt l.length 4294967296=true:=by rw [ZB];exact hl
 simp only [h1,h2,h3,this,cond_true]
theorem iP {v:Nat} (h:v<256):Value.int .u8 v=eC (qaD v):=by
 unfold eC;have e:(qaD v).toNat=v:=by rw [qdo];exact qaG h
 rw [e];rfl
theorem ay (A:Mem) (o:Ob):(A.alloc o).get A.next=some o:=by rw [cK,if_pos rfl]
theorem aB {o:Ob} {x:Nat} (h:x≠A.next):(A.alloc o).get x=A.get x:=by rw [cK,if_neg h]
theorem DG {st xt e:TypeId} {i:TypeInfo} {b2:Nat} {k:Kd} {l:List UInt8} {v:Nat} (hst:tb.bp st=some (.slice e)) (hxt:tb.bp xt=some (.slice e)) (hz:cg tb e= .ok (1,[.int .u8 0])) (hi:tb.ty.get e=some i) (hib:i.bytes=1)
 (hl:l.length<16777216) (hk:k= .mark∨k= .row) (hb:Bytes A b e k l) (hb2:A.get b2=some (aa e [.int .u8 v])) (hv:v<256):
 ba tb A st xt (.slice (some ⟨b,0,none⟩) l.length (gO l.length 1)) (.slice (some ⟨b2,0,none⟩) 1 2)=
  .ok (.slice (some ⟨A.next,0,none⟩) (l.length+1) (gO (l.length+1) 1),(A.set b .dead).alloc (.cells e k 0 (T.bR .e 0 ((l++[qaD v]).map eC)))):=by
 have he1:(1:Nat)<65536:=by omega
 have hnew:fZ A.get 1 1 (.slice (some ⟨b2,0,none⟩) 1 2)= .ok [eC (qaD v)]:=by
  have hb3:Bytes A b2 e (.var 1) [qaD v]:=by
   show A.get b2=some (.cells e (.var 1) 0 (T.bR .e 0 [eC (qaD v)]));rw [hb2,iP hv];rfl
  exact mT hb3
 have hble:Zj (l.length+1) (bM (gO l.length 1))=false:=by
  rw [cz he1];cases hq:Zj (l.length+1) l.length with
  |false=>rfl
  |true=>have:=ZP hq;omega
 have hlim:(Zj (l.length+1) 16777216&&Zj i.bytes 65536&&Zt 0 i.bytes&&Zt 0 1&&Zt 1 65536)=true:=by
  have a1:Zj (l.length+1) 16777216=true:=qaf (by omega);rw [a1,hib];rfl
 have hb':A.get b=_:=hb;have hx:ec (gO l.length 1)=false:=cS _ _;have he:Zr (js (gO l.length 1)) 1=true:=by rw [dS he1];rfl
 have hfz:(Zj 0 (0+l.length*1)&&(Zr e e&&Zt 0 9223372036854775808))=true:=by
  have h0:Zt 0 9223372036854775808=true:=by rw [ZB];omega
  rw [h0];simp
 unfold ba cW;simp only [hst,hxt,gH,cond_false,hz,R.aw,ji,hnew,hble,hi,hlim,cond_true,mT hb,hx,he,List.all_cons,List.all_nil,eC,aH,qbu,hb',hfz];rcases hk with rfl|rfl<;>simp [eC]
variable {o i:Nat}
theorem lu {t elem:TypeId} {len:Nat} {k:IntKind} (hu:tb.bp t=some (.array len elem)) (hs:aV tb elem= .ok 1) (h:i<len):
 aW tb t (.pointer (some ⟨b,o,none⟩)) (.int k (i:Int))= .ok (.pointer (some ⟨b,o+i,none⟩)):=by
 have hb:Zt i len=true:=by rw [ZB];exact h
 have hn:mo (.int k (i:Int))= .ok i:=rfl;unfold aW;simp only [hn,hu,hb,cond_true,hs,R.aw,jd,qaw]
variable {cap:Nat}
theorem iM {t elem:TypeId} {len:Nat} {k:IntKind} (hu:tb.bp t=some (.slice elem)) (hs:aV tb elem= .ok 1) (h:i<len):
 aW tb t (.slice (some ⟨b,o,none⟩) len cap) (.int k (i:Int))= .ok (.pointer (some ⟨b,o+i,none⟩)):=by
 have hb:Zt i len=true:=by rw [ZB];exact h
 have hn:mo (.int k (i:Int))= .ok i:=rfl;unfold aW;simp only [hn,hu,hb,cond_true,hs,R.aw,jd,qaw]
variable {v:Value}
theorem EG {t e:TypeId} {d:TypeDesc} {l:List Value} (hu:tb.bp t=some d) (ha:cH d=false) (hg:A.get b=some (aa e l)) (hv:l[o]?=some v):
 ai tb A.get t (.pointer (some ⟨b,o,none⟩))= .ok v:=by
 have ho:o<l.length:=(Zl.1 hv).1;have hc:(T.bR .e 0 l).get o=some v:=by
  rw [T.eI,if_pos (by omega),qaA];exact hv
 unfold ai;simp only [hg,aa,hu,ha,cond_false,hc]
variable {B:Mem}
theorem KP {t:TypeId} (h:A.get b=B.get b):ai tb A.get t (.pointer (some ⟨b,o,none⟩))=ai tb B.get t (.pointer (some ⟨b,o,none⟩)):=by
 unfold ai;simp only [h]
variable {n:Nat}
theorem ez {t e:TypeId} {a:Option Addr} (hu:tb.bp t=some (.slice e)):aL tb .len [t] [.slice a n c]= .ok (.int .i64 (n:Nat)):=by
 unfold aL EE;simp only [hu];rfl
end
section
variable {tb:bL}
def XF (A:Mem) (b:Nat) (e:TypeId) (k:Kd) (l:List UInt8):Prop:=∃c,A.get b=some (.cells e k 0 c)∧∀i,i<l.length→c.get i=(l.map eC)[i]?
variable {A:Mem} {b:Nat}
theorem Gx {e:TypeId} {k:Kd} {l:List UInt8} (h:XF A b e k l):cT A.get 1 l.length (some ⟨b,0,none⟩)= .ok (l.map eC):=by
 obtain⟨c,h1,h2⟩:=h;unfold cT;simp only [qaw];cases hn:Zr l.length 0 with
 |true=>
  have:l=[]:=Zw.1 (ZA hn);subst this;rfl
 |false=>
  have hg:c.iX l.length 0=some (l.map eC):=fR _ _ _ _ (by simp) fun j hj=>by rw [ZT];exact h2 j hj
  simp only [cond_false,h1,hg]
variable {c:Nat}
theorem zE {e:TypeId} {k:Kd} {l:List UInt8} {s d:TypeId} (h1:tb.bp s=some (.slice e)) (h2:tb.bp d=some .string) (h3:tb.bp e=some (.int .u8)) (h:XF A b e k l):
 dw tb A.get s d (.slice (some ⟨b,0,none⟩) l.length c)= .ok (strOf l):=by
 unfold dw;simp only [h1,h2,h3,iH,Gx h,R.aw,iR]
end
section
variable {tb:bL} {ih:Code→St→R (Ex×St)}
def Sl (t:T Value):List (Nat×Value)→Prop
 | []=>True
 |p::l=>t.get p.1=some p.2∧Sl t l
theorem H4 (t:T Value) (i:Nat) (v:Value) (l:List (Nat×Value)):Sl t ((i,v)::l)=(t.get i=some v∧Sl t l):=rfl
theorem Mg (t:T Value):Sl t []=True:=rfl
theorem W.bf {c:Code} {s:St} {K:Ex→St→Prop} (g f:Nat) {e:Ex} {s':St} (h:∀M,g≤M→exec tb (M+f) c s= .ok (e,s')) (k:K e s'):W tb c s K:=
 ⟨e,s',⟨g+f,fun m=>by rw [←qa3];exact h _ (Nat.le_add_left _ _)⟩,k⟩
variable {n:Nat} {t:T Value} {A:Mem}
theorem W.up {c:Code} {d:List Nat} {ro:Option Nat} {K:Ex→St→Prop} (N:Nat) (P:Nat→T Value→Mem→Prop)
 (hb:∀k t A,k≤N→P k t A→W tb c ⟨t,n,d,A,ro⟩ fun e s'=>match e with
  | .nrm=>k<N∧∃t' A',s'=⟨t',n,d,A',ro⟩∧P (k+1) t' A'
  |e=>K e s') {k:Nat} (hk:k≤N) (hp:P k t A):W tb (.loop c) ⟨t,n,d,A,ro⟩ K:=by
 have main:∀j k t A,k+j=N→P k t A→W tb (.loop c) ⟨t,n,d,A,ro⟩ K:=by
  intro j
  induction j with
  |zero=>
   intro k t A hk hp;refine W.round ((hb k t A (by omega) hp).mono fun e s' h=>?_);cases e with
   |nrm=>exact absurd h.1 (by omega)
   |_=>exact h
  |succ j ih=>
   intro k t A hk hp;refine W.round ((hb k t A (by omega) hp).mono fun e s' h=>?_);cases e with
   |nrm=>
    obtain⟨_,t',A',rfl,h'⟩:=h;exact ih (k+1) t' A' (by omega) h'
   |_=>exact h
 exact main (N-k) k t A (by omega) hp
def bJ (tb:bL) (f:FuncId) (args:List Value) (A:Mem) (v:Value) (A':Mem):Prop:=∃g,∀M,g≤M→bc tb (exec tb M) (.fn f args) A= .ok (.val v A')
variable {f:FuncId} {fn:Func}
theorem dQ {c:Code} {args:List Value} {Q:Value→Mem→Prop} (hf:tb.fn.get f=some fn) (hb:fn.body=some c) (hn:args.length≤fn.ntmps) (hnm:(fn.name== "runtime.NumGoroutine")=false) (hk:tb.hk.get f=none)
 (h:W tb c ⟨T.bR .e 0 args,fn.ntmps,[],A,none⟩ fun e s=>(e= .nrm∨e= .ret)∧∃A' vs,fc s.d s.m= .ok A'∧fj tb s.t A'.get fn.results.toList= .ok vs∧Q (oneOf vs) A'):
 ∃v A',bJ tb f args A v A'∧Q v A':=by
 obtain⟨v,A',⟨g,h1⟩,h2⟩:=xN hf hb hn hnm hk h;refine⟨v,A',⟨g,fun M hM=>?_⟩,h2⟩;have:=h1 (M-g);rwa [qbf hM] at this
variable {A':Mem} {v:Value}
theorem Ay {c:Code} {args:List Value} (hf:tb.fn.get f=some fn) (hb:fn.body=some c) (hnm:(fn.name== "runtime.NumGoroutine")=false) (hk:tb.hk.get f=none) (h:bJ tb f args A v A'):jq tb f args A v A':=by
 obtain⟨g,hg⟩:=h;refine⟨g,?_⟩;have h1:=hg g (Zn _);unfold bc at h1;simp only [hf,hb,hnm,hk,cond_false] at h1;unfold call;simp only [hf,hb];exact h1
section
variable (dst:Option Tmp) (ty:TypeId) (pos:String) (after:Array Edge) (g:Option (Nat×Bool)) (s:St) (k:St→R (Ex×St))
theorem aM (f:FuncId) (a b:Array Operand):dK tb ih {dst,op:=.makeFunc (.func f) a b,type:=ty,pos,after,guard:=g} s k=
 (pC s.t a.toList).bind fun a=>(pC s.t b.toList).bind fun b=>bQ s dst (.func (.func f) ⟨a⟩ ⟨b⟩) k:=by
 rw [i_ _ _ _ _ _ _ _ rfl rfl];simp only [uM,R.a7,R.aw]
def Ij (tb:bL) (ih:Code→St→R (Ex×St)) (fv:Value) (a:List Value) (A:Mem):R FM:=(iL tb A.get fv a).bind fun cl=>bc tb ih cl A
theorem xO (f:FuncId) (x y:List Value) (a:List Value) (A:Mem):Ij tb ih (.func (.func f) ⟨x⟩ ⟨y⟩) a A=bc tb ih (.fn f (x++a++y)) A:=rfl
theorem vq (l:Nat) (x y:Array Value) (a:List Value) (A:Mem):Ij tb ih (.func (.yield l) x y) a A=bc tb ih (.round l a) A:=rfl
theorem Be (x:Nat) (args:Array Operand) (ts:Array TypeId):dK tb ih {dst,op:=.call {callee:=.value (.tmp x),args,argTypes:=ts},type:=ty,pos,after,guard:=g} s k=
 (pC s.t args.toList).bind fun a=>(ev s.t (.tmp x)).bind fun fv=>(Ij tb ih fv a s.m).bind fun r=>OC s dst k r:=by
 unfold dK;show((xQ tb s.t s.m.get {callee:=.value (.tmp x),args,argTypes:=ts}).bind fun cl=>(bc tb ih cl s.m).bind fun r=>match r with
  | .val v A=>bQ {s with m:=A} dst v k
  | .kh v A=>.ok (.kh v,{s with m:=A}))=_
 unfold xQ Ij;simp only [R.a7];cases pC s.t args.toList with
 |no _=>rfl
 |ok a=>
  simp only [R.aw];cases ev s.t (.tmp x) with
  |no _=>rfl
  |ok fv=>
   simp only [R.aw];cases iL tb s.m.get fv a with
   |no _=>rfl
   |ok cl=>
    simp only [R.aw];cases bc tb ih cl s.m with
    |no _=>rfl
    |ok r=>cases r<;>rfl
end
theorem dI (t:T Value):ev t (.const (.slice none 0 0))= .ok (.slice none 0 0):=rfl
theorem bU (t:T Value):ev t (.const .nilFunc)= .ok .nilFunc:=rfl
theorem aQ (t:T Value):ev t (.const (.pointer none))= .ok (.pointer none):=rfl
theorem px (t:T Value):ev t (.const (.map none))= .ok (.map none):=rfl
theorem iY (a b:Int):nV a b=decide (a<b):=by
 have h:∀x y:Nat,Zt x y=decide (x<y):=fun x y=>by
  cases hb:Zt x y with
  |true=>rw [ZB] at hb;simp [hb]
  |false=>
   have:¬x<y:=fun h=>by rw [←ZB,hb] at h;cases h
   simp [this]
 unfold nV;split
 ·rw [h];congr 1;simp
 ·symm;simp only [decide_eq_false_iff_not];simp only [ZY];omega
 ·symm;simp only [decide_eq_true_eq];simp only [ZY];omega
 ·rw [h];congr 1;simp only [eq_iff_iff];omega
theorem sO (a b:Int):mb a b=decide (a=b):=by
 have h:∀x y:Nat,Zr x y=decide (x=y):=fun x y=>by
  cases hb:Zr x y with
  |true=>have:=ZA hb;simp [this]
  |false=>have:=qcB hb;simp [this]
 unfold mb;split
 ·rw [h];congr 1;simp only [ZY,eq_iff_iff];omega
 ·rw [h];congr 1;simp only [eq_iff_iff];omega
 ·rename_i h1 h2;symm;simp only [decide_eq_false_iff_not];intro hab;subst hab;cases a with
  |ofNat x=>exact h1 x x rfl rfl
  |negSucc x=>exact h2 x x rfl rfl
theorem fi {k:IntKind} {a b:Int}:aK .leq k a b= .ok (.bool (decide (a≤b))):=by
 show R.ok (Value.bool (!nV b a))=_;rw [iY];congr 2;by_cases h:a≤b
 ·have:¬b<a:=by omega
  simp [h,this]
 ·have:b<a:=by omega
  simp [h,this]
theorem bT {k:IntKind} {a b:Int}:aK .gtr k a b= .ok (.bool (decide (b<a))):=by
 show R.ok (Value.bool (nV b a))=_;rw [iY]
theorem bN {k:IntKind} {a b:Int}:aK .geq k a b= .ok (.bool (decide (b≤a))):=by
 show R.ok (Value.bool (!nV a b))=_;rw [iY];congr 2;by_cases h:b≤a
 ·have:¬a<b:=by omega
  simp [h,this]
 ·have:a<b:=by omega
  simp [h,this]
theorem pK {k:IntKind} {a b:Int}:aK .lss k a b= .ok (.bool (decide (a<b))):=by
 show R.ok (Value.bool (nV a b))=_;rw [iY]
theorem bj (a b:Nat):((a:Int)≤(b:Int))=(a≤b):=by simp
theorem bA (a b:Nat):((a:Int)<(b:Int))=(a<b):=by simp
variable {b:Nat}
theorem max_i64 {ts:List TypeId} {a:Nat}:aL tb .max ts [.int .i64 a,.int .i64 b]= .ok (.int .i64 (max a b:Nat)):=by
 have e:aL tb .max ts [.int .i64 a,.int .i64 b]= .ok (.int .i64 (bif Zt a b then(b:Int) else(a:Int))):=by
  cases ts<;>rfl
 rw [e];cases h:Zt a b with
 |true=>
  have:a<b:=by simpa [ZB] using h
  rw [qcY (by omega)];rfl
 |false=>
  have:¬a<b:=by intro hx;rw [←ZB,h] at hx;cases hx
  rw [qdC (by omega)];rfl
theorem PI {p:Bool}:VV .not (.bool p)= .ok (.bool (!p)):=by cases p<;>rfl
def dj (A:Mem) (e:TypeId) (b:Nat) (k:Kd) (l:List Value):Prop:=∃c,A.get b=some (.cells e k 0 c)∧∀i,i<l.length→c.get i=l[i]?
theorem ei {e:TypeId} {k:Kd} {l:List Value} (h:A.get b=some (.cells e k 0 (T.bR .e 0 l))):dj A e b k l:=
 ⟨_,h,fun i hi=>by rw [T.eI,ZT,if_pos ⟨Zv _,hi⟩,qaA]⟩
theorem dj.same {e:TypeId} {k:Kd} {l:List Value} (h:dj A e b k l) (hg:A'.get b=A.get b):dj A' e b k l:=by
 obtain⟨c,h1,h2⟩:=h;exact⟨c,hg.trans h1,h2⟩
theorem kQ {e:TypeId} {k:Kd} {l:List Value} (h:dj A e b k l):cT A.get 1 l.length (some ⟨b,0,none⟩)= .ok l:=by
 obtain⟨c,h1,h2⟩:=h;unfold cT;simp only [qaw];cases hn:Zr l.length 0 with
 |true=>
  have:l=[]:=Zw.1 (ZA hn);subst this;rfl
 |false=>
  have hg:c.iX l.length 0=some l:=fR _ _ _ _ rfl fun j hj=>by rw [ZT];exact h2 j hj
  simp only [cond_false,h1,hg]
variable {o:Nat}
theorem aU {e t:TypeId} {d:TypeDesc} {k:Kd} {l:List Value} (hu:tb.bp t=some d) (ha:cH d=false) (h:dj A e b k l) (hv:l[o]?=some v):
 ai tb A.get t (.pointer (some ⟨b,o,none⟩))= .ok v:=by
 obtain⟨c,h1,h2⟩:=h;have ho:o<l.length:=(Zl.1 hv).1;have hc:=h2 o ho;rw [hv] at hc;unfold ai;simp only [h1,hu,ha,cond_false,hc]
theorem aY {e t:TypeId} {k:Kd} {l:List Value} (hs:aV tb t= .ok 1) (h:dj A e b k l) (ho:o<l.length) (hv:v.cells.toList=[v]) (h1c:aH v=true):
 ∃A',aT tb A t (.pointer (some ⟨b,o,none⟩)) v= .ok A'∧dj A' e b k (l.set o v)∧A'.next=A.next∧∀x,x≠b→A'.get x=A.get x:=by
 obtain⟨c,h1,h2⟩:=h;have hc:c.get o=some l[o]:=by rw [h2 o ho,Zi ho]
 have hst:eG (Bp k) 0 [v] o c= .ok (c.set o v):=by
  unfold eG;have hb:(aH v&&Zj 0 o)=true:=by rw [h1c];simp
  rw [hb,cond_true,hc];rfl
 refine⟨A.set b (.cells e k 0 (c.set o v)),?_,⟨_,by rw [aC,if_pos rfl],fun i hi=>?_⟩,aO _ _ _,fun x hx=>by rw [aC,if_neg hx]⟩
 ·unfold aT;simp only [hs,R.aw,hv];show(bif Zr 1 1 then c_ A ⟨b,o,none⟩ [v] else .no 123)=_;unfold c_;simp only [h1,hst,R.aw];rfl
 ·rw [ZR] at hi;rw [T.aD,qaj];by_cases hio:i=o
  ·subst hio;rw [if_pos rfl,if_pos rfl,if_pos hi]
  ·rw [if_neg hio,if_neg (fun x=>hio x.symm),h2 i hi]
def nZ (A:Mem) (e:TypeId) (b:Nat) (l:List Value) (x:Value):Prop:=
 (x= .slice none 0 0∧l=[])∨∃k c,x= .slice (some ⟨b,0,none⟩) l.length c∧b<A.next∧dj A e b k l∧(c=2*l.length∨(c=gO l.length 1∧(k= .row∨k= .mark)))
theorem nZ.same {e:TypeId} {l:List Value} {x:Value} (h:nZ A e b l x) (hn:A.next≤A'.next) (hg:b<A.next→A'.get b=A.get b):nZ A' e b l x:=by
 rcases h with h|⟨k,c,h1,h2,h3,h4⟩
 ·exact .inl h
 ·exact .inr ⟨k,c,h1,ZJ h2 hn,h3.same (hg h2),h4⟩
theorem nZ.len {e t t':TypeId} {l:List Value} {x:Value} (h:nZ A e b l x) (hu:tb.bp t=some (.slice t')):aL tb .len [t] [x]= .ok (.int .i64 (l.length:Nat)):=by
 rcases h with⟨rfl,rfl⟩|⟨k,c,rfl,-⟩<;>exact ez hu
theorem nZ.idx {e t t':TypeId} {i:Nat} {kd:IntKind} {l:List Value} {x:Value} (h:nZ A e b l x) (hu:tb.bp t=some (.slice t')) (hs:aV tb t'= .ok 1) (hi:i<l.length):
 aW tb t x (.int kd (i:Int))= .ok (.pointer (some ⟨b,i,none⟩)):=by
 rcases h with⟨rfl,rfl⟩|⟨k,c,rfl,-⟩
 ·simp at hi
 ·rw [iM hu hs hi,ZT]
theorem nZ.load {e t:TypeId} {d:TypeDesc} {l:List Value} {x:Value} (h:nZ A e b l x) (hu:tb.bp t=some d) (ha:cH d=false) (hv:l[o]?=some v):
 ai tb A.get t (.pointer (some ⟨b,o,none⟩))= .ok v:=by
 rcases h with⟨rfl,rfl⟩|⟨k,c,rfl,h2,h3,-⟩
 ·simp at hv
 ·exact aU hu ha h3 hv
theorem nZ.cells {e:TypeId} {l:List Value} {x:Value} (h:nZ A e b l x):x.cells.toList=[x]:=by
 rcases h with⟨rfl,rfl⟩|⟨k,c,rfl,-⟩<;>rfl
theorem nZ.one {e:TypeId} {l:List Value} {x:Value} (h:nZ A e b l x):aH x=true:=by
 rcases h with⟨rfl,rfl⟩|⟨k,c,rfl,-⟩<;>rfl
theorem lX (l:List UInt8):(strOf l).cells.toList=[strOf l]:=rfl
theorem dc (k:IntKind) (n:Int):(Value.int k n).cells.toList=[.int k n]:=rfl
theorem tY (a:Option Addr) (n c:Nat):(Value.slice a n c).cells.toList=[.slice a n c]:=rfl
theorem aj (l:List Value):(Value.agg ⟨l⟩).cells.toList=l:=rfl
theorem lU {a b:Bool}:ik .neq (some .bool) (.bool a) (.bool b)= .ok (.bool (a !=b)):=by cases a<;>cases b<;>rfl
theorem cF (f:Fn) (a b:Array Value):(Value.func f a b).cells.toList=[.func f a b]:=rfl
theorem builtin_append (A:Mem) (st xt:TypeId) (s x:Value):gK tb A .append [st,xt] [s,x]=ba tb A st xt s x:=rfl
variable {z:Value}
theorem nZ.append {st xt e:TypeId} {i:TypeInfo} {b2:Nat} {l:List Value} {x:Value} (h:nZ A e b l x) (hst:tb.bp st=some (.slice e)) (hxt:tb.bp xt=some (.slice e)) (hz:cg tb e= .ok (1,[z])) (hi:tb.ty.get e=some i) (hib:0<i.bytes) (hib':i.bytes≤65536)
 (hl:l.length<16777216) (hb2:A.get b2=some (aa e [v])) (h1c:aH v=true):
 ∃x' A',ba tb A st xt x (.slice (some ⟨b2,0,none⟩) 1 2)= .ok (x',A')∧nZ A' e A.next (l++[v]) x'∧A'.next=A.next+1∧∀y,y≠b→y<A.next→A'.get y=A.get y:=by
 have he1:(1:Nat)<65536:=by omega
 have hnew:fZ A.get 1 1 (.slice (some ⟨b2,0,none⟩) 1 2)= .ok [v]:=kQ (l:=[v]) (ei (e:=e) (k:=.var 1) hb2);have hlim:(Zj (l.length+1) 16777216&&Zj i.bytes 65536&&Zt 0 i.bytes&&Zt 0 1&&Zt 1 65536)=true:=by
  have a1:Zj (l.length+1) 16777216=true:=qaf (by omega);have a2:Zj i.bytes 65536=true:=qaf hib';have a3:Zt 0 i.bytes=true:=by rw [ZB];exact hib
  rw [a1,a2,a3];rfl
 have fin:∀(k':Kd) (A0:Mem),A0.next=A.next→(∀y,y≠b→A0.get y=A.get y)→(k'= .row∨k'= .mark)→
  nZ (A0.alloc (.cells e k' 0 (T.bR .e 0 (l++[v])))) e A.next (l++[v]) (.slice (some ⟨A.next,0,none⟩) (l.length+1) (gO (l.length+1) 1))∧(A0.alloc (.cells e k' 0 (T.bR .e 0 (l++[v])))).next=A.next+1∧∀y,y≠b→y<A.next→(A0.alloc (.cells e k' 0 (T.bR .e 0 (l++[v])))).get y=A.get y:=by
  intro k' A0 hn hg hk';refine⟨.inr ⟨k',_,by rw [Zo];rfl,by rw [ae];omega,ei ?_,.inr ⟨by rw [Zo];rfl,hk'⟩⟩,by rw [ae,hn],fun y hy hlt=>?_⟩
  ·rw [←hn];exact ay _ _
  ·rw [aB (by omega),hg y hy]
 rcases h with⟨rfl,rfl⟩|⟨k,c,rfl,h2,h3,h4⟩
 ·refine⟨.slice (some ⟨A.next,0,none⟩) 1 (gO 1 1),A.alloc (.cells e .row 0 (T.bR .e 0 [v])),?_,?_⟩
  ·unfold ba cW;have hble:Zj (0+1) (bM 0)=false:=rfl;have hx:ec 0=true:=rfl;have hel:cT A.get 1 0 none= .ok []:=rfl;simp only [hst,hxt,gH,cond_false,hz,R.aw,ji,hnew,hble,hi];simp only [ZG,ZT] at hlim;simp only [ZT,hlim,cond_true,hel,R.aw,hx,qac]
  ·exact fin .row A rfl (fun _ _=>rfl) (.inl rfl)
 ·obtain⟨cs,hb',hcs⟩:=h3;have hel:cT A.get 1 l.length (some ⟨b,0,none⟩)= .ok l:=kQ ⟨cs,hb',hcs⟩;rcases h4 with rfl|⟨rfl,hk⟩
  ·have hx:ec (2*l.length)=true:=by show Zr (2*l.length % 2) 0=true;rw [qcG];rfl
   have hcn:bM (2*l.length)=l.length:=by unfold bM;rw [hx,cond_true];show 2*l.length/2=l.length;omega
   have hble:Zj (l.length+1) (bM (2*l.length))=false:=by
    rw [hcn];cases hq:Zj (l.length+1) l.length with
    |false=>rfl
    |true=>have:=ZP hq;omega
   refine⟨_,A.alloc (.cells e .row 0 (T.bR .e 0 (l++[v]))),?_,fin .row A rfl (fun _ _=>rfl) (.inl rfl)⟩;unfold ba cW;simp only [hst,hxt,gH,cond_false,hz,R.aw,ji,hnew,hble,hi,hlim,cond_true,hel,hx]
  ·have hble:Zj (l.length+1) (bM (gO l.length 1))=false:=by
    rw [cz he1];cases hq:Zj (l.length+1) l.length with
    |false=>rfl
    |true=>have:=ZP hq;omega
   have hx:ec (gO l.length 1)=false:=cS _ _;have he:Zr (js (gO l.length 1)) 1=true:=by rw [dS he1];rfl
   have hfz:(Zj 0 (0+l.length*1)&&(Zr e e&&Zt 0 9223372036854775808))=true:=by
    have h0:Zt 0 9223372036854775808=true:=by rw [ZB];omega
    rw [h0];simp
   refine⟨_,(A.set b .dead).alloc (.cells e k 0 (T.bR .e 0 (l++[v]))),?_,fin k (A.set b .dead) (aO _ _ _) (fun y hy=>by rw [aC,if_neg hy]) hk⟩;unfold ba cW;simp only [hst,hxt,gH,cond_false,hz,R.aw,ji,hnew,hble,hi,hlim,cond_true,hel,hx,he,List.all_cons,List.all_nil,h1c,qbu,hb',hfz];rcases hk with rfl|rfl<;>rfl
def MX (tb:bL) (ops:List Oper) (fl:List (Nat×Nat)):Bool:=
 match gZ tb ops with
 | .ok l=>decide (l=fl)
 |_=>false
theorem au {id:Nat} {ops:Array Oper} {s:St} (fl:List (Nat×Nat)) (h:MX tb ops.toList fl=true):exec tb (n+1) (.region id ops true) s=(dV tb (exec tb n) ops.toList fl ops.toList 0 [] [] [] s).bind fun(e,s)=>match e with
 | .nrm=>.ok (.nrm,s)
 |_=>.no 312:=by
 have h':gZ tb ops.toList= .ok fl:=by
  unfold MX at h;split at h
  ·rename_i l hl;rw [hl,of_decide_eq_true h]
  ·cases h
 show((gZ tb ops.toList).bind fun fl=>(dV tb (exec tb n) ops.toList fl ops.toList 0 [] [] [] s).bind fun(e,s)=>_)=_;rw [h'];rfl
section
variable {ops l:List Oper} {fl:List (Nat×Nat)} {dst:Option Tmp} {op:Op} {ty:TypeId} {pos:String} {after:Array Edge} {i:Nat} {mems:List (Nat×Mem)} {recs:List Rec} {mks:List (Nat×Nat)} {s:St}
theorem E4:dV tb ih ops fl [] i mems recs mks s= .ok (.nrm,s):=rfl
theorem pN : dV tb ih ops fl ({ dst, op, type := ty, pos, after, guard := none } :: l) i mems recs mks s = match cls tb op with
        | .L => dK tb ih { dst, op, type := ty, pos, after, guard := none } { s with m := eO ((mks.filter fun x => bZ x.1 i fl).map (·.2)) s.m } fun s' =>
          (fT s.m.get ((mks.filter fun x => bZ x.1 i fl).map (·.2)) s'.m).bind fun A =>
          bif (recs.filter fun x => bZ x.i i fl).all (ef tb A.get) then dV tb ih ops fl l (i + 1) ((i, s.m) :: mems) recs mks { s' with m := A } else .no 310
        | .Rd => (nz tb s.t s.m.get op).bind fun v =>
          bif (mems.filter fun m => bZ i m.1 fl).all (fun m => ef tb m.2.get ⟨i, s.t, op, v⟩) then bQ s dst v (dV tb ih ops fl l (i + 1) mems (⟨i, s.t, op, v⟩ :: recs) mks) else .no 311
        | .Al => dK tb ih { dst, op, type := ty, pos, after, guard := none } s fun s' => dV tb ih ops fl l (i + 1) (xy s.m.next (s'.m.get s.m.next) mems) recs ((i, s.m.next) :: mks) s'
        | .P => dK tb ih { dst, op, type := ty, pos, after, guard := none } s (dV tb ih ops fl l (i + 1) mems recs mks) := rfl
theorem OK (h:cls tb op= .P):dV tb ih ops fl ({dst,op,type:=ty,pos,after,guard:=none}::l) i mems recs mks s=dK tb ih {dst,op,type:=ty,pos,after,guard:=none} s (dV tb ih ops fl l (i+1) mems recs mks):=by
 rw [pN,h]
theorem Jm (h:cls tb op= .Al):dV tb ih ops fl ({dst,op,type:=ty,pos,after,guard:=none}::l) i mems recs mks s=dK tb ih {dst,op,type:=ty,pos,after,guard:=none} s fun s'=>dV tb ih ops fl l (i+1) (xy s.m.next (s'.m.get s.m.next) mems) recs ((i,s.m.next)::mks) s':=by
 rw [pN,h]
def oU {α:Type} (p:Nat→Bool):List (Nat×α)→List (Nat×α)
 | []=>[]
 |x::l=>bif p x.1 then x::oU p l else oU p l
theorem Fp {α:Type} (p:Nat→Bool):oU p ([]:List (Nat×α))=[]:=rfl
theorem Fs {α:Type} {p:Nat→Bool} {j:Nat} {a:α} {l:List (Nat×α)} (h:p j=true):oU p ((j,a)::l)=(j,a)::oU p l:=by simp [oU,h]
theorem Jw {α:Type} {p:Nat→Bool} {j:Nat} {a:α} {l:List (Nat×α)} (h:p j=false):oU p ((j,a)::l)=oU p l:=by simp [oU,h]
theorem xp {α:Type} (p:Nat→Bool) (l:List (Nat×α)):(l.filter fun x=>p x.1)=oU p l:=by
 induction l with
 |nil=>rfl
 |cons x l ih=>
  unfold oU;cases h:p x.1<;>simp [h,ih]
def uS (p:Nat→Bool):List Rec→List Rec
 | []=>[]
 |x::l=>bif p x.i then x::uS p l else uS p l
theorem Ft (p:Nat→Bool):uS p []=[]:=rfl
theorem Fu {p:Nat→Bool} {j:Nat} {o:Op} {l:List Rec} (h:p j=true):uS p (⟨j,t,o,v⟩::l)=⟨j,t,o,v⟩::uS p l:=by simp [uS,h]
theorem Jy {p:Nat→Bool} {j:Nat} {o:Op} {l:List Rec} (h:p j=false):uS p (⟨j,t,o,v⟩::l)=uS p l:=by simp [uS,h]
theorem Jx (p:Nat→Bool) (l:List Rec):(l.filter fun x=>p x.i)=uS p l:=by
 induction l with
 |nil=>rfl
 |cons x l ih=>
  unfold uS;cases h:p x.i<;>simp [h,ih]
def k6 (tb:bL) (x:Rec):List (Nat×Mem)→Bool
 | []=>true
 |m::l=>ef tb m.2.get x&&k6 tb x l
theorem wc (x:Rec):k6 tb x []=true:=rfl
theorem sZ (x:Rec) (j:Nat) (A:Mem) (l:List (Nat×Mem)):k6 tb x ((j,A)::l)=(ef tb A.get x&&k6 tb x l):=rfl
theorem y8 (x:Rec) (l:List (Nat×Mem)):(l.all fun m=>ef tb m.2.get x)=k6 tb x l:=by
 induction l with
 |nil=>rfl
 |cons m l ih=>simp [k6,ih]
def k7 (tb:bL) (g:Nat→Option Ob):List Rec→Bool
 | []=>true
 |m::l=>ef tb g m&&k7 tb g l
theorem we (g:Nat→Option Ob):k7 tb g []=true:=rfl
theorem s8 (g:Nat→Option Ob) (x:Rec) (l:List Rec):k7 tb g (x::l)=(ef tb g x&&k7 tb g l):=rfl
theorem y9 (g:Nat→Option Ob) (l:List Rec):(l.all (ef tb g))=k7 tb g l:=by
 induction l with
 |nil=>rfl
 |cons m l ih=>simp [k7,ih]
def C4 (x:R Value) (v:Value):Bool:=
 match x with
 | .ok v'=>bP 100 v' v
 | .no _=>false
theorem wg (g:Nat→Option Ob) (j:Nat) (t:T Value) (e:TypeId) (x:Tmp) (v:Value):ef tb g ⟨j,t,.load e (.tmp x),v⟩=C4 ((ev t (.tmp x)).bind fun x=>ai tb g e x) v:=rfl
theorem my (b o n c:Nat):bP 100 (.slice (some ⟨b,o,none⟩) n c) (.slice (some ⟨b,o,none⟩) n c)=true:=by simp [bP,zi,td]
theorem dP (k:IntKind) (n:Nat) (h:dU k k=true):bP 100 (.int k (n:Int)) (.int k (n:Int))=true:=by
 have:mb (n:Int) (n:Int)=true:=by rw [sO];simp
 simp [bP,h,this]
theorem y_ (v w:Value):C4 (.ok v) w=bP 100 v w:=rfl
theorem Jn (h:cls tb op= .Rd):dV tb ih ops fl ({dst,op,type:=ty,pos,after,guard:=none}::l) i mems recs mks s=(nz tb s.t s.m.get op).bind fun v=>
 bif k6 tb ⟨i,s.t,op,v⟩ (oU (fun j=>bZ i j fl) mems) then bQ s dst v (dV tb ih ops fl l (i+1) mems (⟨i,s.t,op,v⟩::recs) mks) else .no 311:=by
 rw [pN,h];simp only [xp (fun j=>bZ i j fl) mems,y8]
theorem OJ (h:cls tb op= .L):dV tb ih ops fl ({dst,op,type:=ty,pos,after,guard:=none}::l) i mems recs mks s=
 dK tb ih {dst,op,type:=ty,pos,after,guard:=none} {s with m:=eO ((oU (fun j=>bZ j i fl) mks).map (·.2)) s.m} fun s'=>
  (fT s.m.get ((oU (fun j=>bZ j i fl) mks).map (·.2)) s'.m).bind fun A=>
  bif k7 tb A.get (uS (fun j=>bZ j i fl) recs) then dV tb ih ops fl l (i+1) ((i,s.m)::mems) recs mks {s' with m:=A} else .no 310:=by
 rw [pN,h];simp only [xp (fun j=>bZ j i fl) mks,Jx (fun j=>bZ j i fl) recs,y9]
theorem E7 {j:Nat} {want:Bool} (h:fq ops {dst,op,type:=ty,pos,after,guard:=some (j,want)} s.t= .ok false):dV tb ih ops fl ({dst,op,type:=ty,pos,after,guard:=some (j,want)}::l) i mems recs mks s=bQ s dst cQ (dV tb ih ops fl l (i+1) mems recs mks):=by
 show((fq ops {dst,op,type:=ty,pos,after,guard:=some (j,want)} s.t).bind fun w=>bif w then _ else bQ s dst cQ (dV tb ih ops fl l (i+1) mems recs mks))=_;rw [h];rfl
theorem s_ {j : Nat} {want : Bool} (h : fq ops { dst, op, type := ty, pos, after, guard := some (j, want) } s.t = .ok true) : dV tb ih ops fl ({ dst, op, type := ty, pos, after, guard := some (j, want) } :: l) i mems recs mks s = match cls tb op with
        | .L => dK tb ih { dst, op, type := ty, pos, after, guard := some (j, want) } { s with m := eO ((mks.filter fun x => bZ x.1 i fl).map (·.2)) s.m } fun s' =>
          (fT s.m.get ((mks.filter fun x => bZ x.1 i fl).map (·.2)) s'.m).bind fun A =>
          bif (recs.filter fun x => bZ x.i i fl).all (ef tb A.get) then dV tb ih ops fl l (i + 1) ((i, s.m) :: mems) recs mks { s' with m := A } else .no 310
        | .Rd => (nz tb s.t s.m.get op).bind fun v =>
          bif (mems.filter fun m => bZ i m.1 fl).all (fun m => ef tb m.2.get ⟨i, s.t, op, v⟩) then bQ s dst v (dV tb ih ops fl l (i + 1) mems (⟨i, s.t, op, v⟩ :: recs) mks) else .no 311
        | .Al => dK tb ih { dst, op, type := ty, pos, after, guard := some (j, want) } s fun s' => dV tb ih ops fl l (i + 1) (xy s.m.next (s'.m.get s.m.next) mems) recs ((i, s.m.next) :: mks) s'
        | .P => dK tb ih { dst, op, type := ty, pos, after, guard := some (j, want) } s (dV tb ih ops fl l (i + 1) mems recs mks) := by
  show ((fq ops { dst, op, type := ty, pos, after, guard := some (j, want) } s.t).bind fun w => bif w then _ else _) = _
  rw [h]; rfl
section
variable {j:Nat} {want:Bool} (hw:fq ops {dst,op,type:=ty,pos,after,guard:=some (j,want)} s.t= .ok true)
include hw
theorem Jp (h:cls tb op= .P):dV tb ih ops fl ({dst,op,type:=ty,pos,after,guard:=some (j,want)}::l) i mems recs mks s=dK tb ih {dst,op,type:=ty,pos,after,guard:=some (j,want)} s (dV tb ih ops fl l (i+1) mems recs mks):=by
 rw [s_ hw,h]
theorem E5 (h:cls tb op= .Al):dV tb ih ops fl ({dst,op,type:=ty,pos,after,guard:=some (j,want)}::l) i mems recs mks s=dK tb ih {dst,op,type:=ty,pos,after,guard:=some (j,want)} s fun s'=>dV tb ih ops fl l (i+1) (xy s.m.next (s'.m.get s.m.next) mems) recs ((i,s.m.next)::mks) s':=by
 rw [s_ hw,h]
theorem E6 (h:cls tb op= .Rd):dV tb ih ops fl ({dst,op,type:=ty,pos,after,guard:=some (j,want)}::l) i mems recs mks s=(nz tb s.t s.m.get op).bind fun v=>
 bif k6 tb ⟨i,s.t,op,v⟩ (oU (fun j=>bZ i j fl) mems) then bQ s dst v (dV tb ih ops fl l (i+1) mems (⟨i,s.t,op,v⟩::recs) mks) else .no 311:=by
 rw [s_ hw,h];simp only [xp (fun j=>bZ i j fl) mems,y8]
theorem Jo (h:cls tb op= .L):dV tb ih ops fl ({dst,op,type:=ty,pos,after,guard:=some (j,want)}::l) i mems recs mks s=
 dK tb ih {dst,op,type:=ty,pos,after,guard:=some (j,want)} {s with m:=eO ((oU (fun j=>bZ j i fl) mks).map (·.2)) s.m} fun s'=>
  (fT s.m.get ((oU (fun j=>bZ j i fl) mks).map (·.2)) s'.m).bind fun A=>
  bif k7 tb A.get (uS (fun j=>bZ j i fl) recs) then dV tb ih ops fl l (i+1) ((i,s.m)::mems) recs mks {s' with m:=A} else .no 310:=by
 rw [s_ hw,h];simp only [xp (fun j=>bZ j i fl) mks,Jx (fun j=>bZ j i fl) recs,y9]
end
theorem Bw (l:List UInt8):bP 100 (strOf l) (strOf l)=true:=by
 show eR l l=true;rw [dk];simp
theorem DB (b:Nat) (o:Option Ob):xy b o []=[]:=by cases o<;>rfl
theorem Av (b:Nat) (o:Ob) (j:Nat) (A:Mem) (l:List (Nat×Mem)):xy b (some o) ((j,A)::l)=(j,A.set b o)::xy b (some o) l:=rfl
theorem AA (g:Nat→Option Ob) (A:Mem):fT g [] A= .ok A:=rfl
theorem EX (t:T Value) (g:Nat→Option Ob) (e:TypeId) (x:Tmp):nz tb t g (.load e (.tmp x))=(ev t (.tmp x)).bind fun x=>ai tb g e x:=rfl
end
end
section
variable {tb:bL}
theorem jO (n:Nat) (f:Operand) (ps:Array Tmp) (a b:Code) (s:St):exec tb (n+1) (.rangeFunc f ps a b) s=fM tb (exec tb n) f ps.toList a b 0 s:=rfl
def ig (t:T Value) (n:Nat) (ps:List Tmp) (a b:Code) (d:Nat):eY:={state:=.ready,pending:=none,fn:=0,tmps:=t,n:=n,params:=ps,assign:=a,body:=b,defers:=d}
variable {t:T Value} {n:Nat} {A A':Mem} {v:Value}
theorem W.uP {f:Operand} {ps:Array Tmp} {a b:Code} {K:Ex→St→Prop} {fid:FuncId} {first capt:List Value} {r:eY}
 (hf:ev t f= .ok (.func (.func fid) ⟨first⟩ ⟨capt⟩))
 (hc:bJ tb fid (first++[.func (.yield (A.next+1)) ⟨[]⟩ ⟨[]⟩]++capt) ((A.alloc .defd).alloc (.loop (ig t n ps.toList a b A.next))) v A')
 (hr:A'.get (A.next+1)=some (.loop r)) (hst:r.state≠ .busy) (hp:r.pending=none)
 (k:K .nrm ⟨t,n,[A.next],A'.set (A.next+1) (.loop {r with state:=.exhausted}),none⟩):W tb (.rangeFunc f ps a b) ⟨t,n,[],A,none⟩ K:=by
 obtain⟨g,hg⟩:=hc;refine⟨_,_,⟨g+1,fun m=>?_⟩,k⟩;rw [show m+(g+1)=(m+g)+1 by omega,jO];have h1:=hg (m+g) (by omega);unfold fM;simp only [hf,R.aw];have hn:(A.alloc .defd).next=A.next+1:=ae _ _
 rw [hn];have hcal:∀g':Nat→Option Ob,iL tb g' (.func (.func fid) ⟨first⟩ ⟨capt⟩) [.func (.yield (A.next+1)) ⟨[]⟩ ⟨[]⟩]= .ok (.fn fid (first++[.func (.yield (A.next+1)) ⟨[]⟩ ⟨[]⟩]++capt)):=fun _=>rfl
 rw [hcal,R.aw];unfold ig at h1;rw [h1,R.aw];simp only [hr,hp];cases hs:r.state with
 |busy=>exact absurd hs hst
 |_=>rfl
theorem iF {l:Nat} {args:List Value} {r:eY} {Q:Mem→Prop} (hl:A.get l=some (.loop r)) (ht:setArgs r.n r.params args r.tmps= .ok t)
 (h:W tb r.assign ⟨t,r.n,[],A,some l⟩ fun e s1=>e= .nrm∧∃r1,s1.m.get l=some (.loop r1)∧r1.state= .ready∧W tb r.body ⟨s1.t,s1.n,s1.d,s1.m.set l (.loop {r1 with state:=.busy}),s1.ro⟩ fun e s2=>e= .nrm∧s2.d=[]∧∃r2,s2.m.get l=some (.loop r2)∧Q (s2.m.set l (.loop {r2 with state:=.ready,pending:=none}))):
 ∃A',(∃g,∀M,g≤M→bc tb (exec tb M) (.round l args) A= .ok (.val (.bool true) A'))∧Q A':=by
 obtain⟨e,s1,⟨f1,h1⟩,rfl,r1,hr1,hst1,e2,s2,⟨f2,h2⟩,rfl,hd,r2,hr2,hQ⟩:=h;refine⟨_,⟨f1+f2,fun M hM=>?_⟩,hQ⟩;show ng (exec tb M) l args A=_;unfold ng;have e1:=h1 (M-f1);rw [qbf (by omega)] at e1;have e2:=h2 (M-f2);rw [qbf (by omega)] at e2;simp only [hl,ht,R.aw,e1,hr1,hst1,e2,hd,hr2]
end
section
variable {tb:bL} (ok:cc tb)
include ok in
theorem Gn {n:Nat} {f:FuncId} {args:List Value} {v:Value} {A A':Mem} (h:call tb n f args A= .ok (.val v A')) {fn:Func} {c:Code} (hf:tb.fn.get f=some fn) (hb:fn.body=some c) (args':Array Value) (w:World) {ι:dg} (hr:Rel ι A w)
 (ha:dG ι args args'.toList) (hfree:∀b,A.next≤b→ι b=none) (hst:∀b l,live A b→ι b=some l→Still A b l):Calls tb.P f args' w fun e w'=>∃ι' v',e= .returned v'∧VR ι' v v'∧Leaves w w':=by
 intro cs;unfold call at h;simp only [hf,hb] at h;rcases yj ok (jP ok n) hf hb h with⟨_,_,h1,_⟩|⟨v,A',h1,hle,hs⟩
 ·cases h1
 ·cases h1;obtain⟨ι',w',v',⟨fr0,st,hfn,hlv⟩,hv,hrel,hstp⟩:=hs ι w args' cs hr ha (fun b h1 _=>hfree b h1);refine⟨.returned v',w',fr0,⟨ι',v',rfl,hv,fun c hc=>?_,hstp.size,hstp.os,hstp.tape,hstp.output⟩,st,hfn,hlv⟩;by_cases hx:∃b l,live A b∧ι b=some l∧l.blk=c
  ·obtain⟨b,l,h1,h2,rfl⟩:=hx;exact(hstp.kept b l h2 (hst b l h1 h2)).2
  ·exact hstp.fr c hc fun b l h1 h2 h3=>hx ⟨b,l,h1,h2,h3⟩
end
section
variable {tb:bL}
theorem zD (m:Nat):∀(vs:List Value) (i:Nat) (c:T Value),(∀v∈vs,aH v=true)→(∀j,j<vs.length→∃y,c.get (i+j)=some y)→eG m 0 vs i c= .ok (c.bR i vs)
 | [],_,_,_,_=>rfl
 |v::vs,i,c,h1,h2=>by
  unfold eG;have hb:(aH v&&Zj 0 i)=true:=by rw [h1 v (Zy ..)];simp
  obtain⟨y,hy⟩:=h2 0 (by simp);rw [Z8] at hy;rw [hb,cond_true,hy];refine zD m vs (i+1) (c.set i v) (fun w hw=>h1 w (Zx _ hw)) fun j hj=>?_
  rw [T.aD];by_cases e:i+1+j=i
  ·omega
  ·rw [if_neg e];obtain⟨y,hy⟩:=h2 (j+1) (by simp;omega);exact⟨y,by rw [←hy];congr 1;omega⟩
variable {A:Mem} {b:Nat} {l':List Value}
theorem bK {e t:TypeId} {k:Kd} {l:List Value} (hs:aV tb t= .ok l.length) (h:dj A e b k l) (hl:l'.length=l.length) (h0:l≠ []) (h1:∀v∈l',aH v=true):
 ∃A',aT tb A t (.pointer (some ⟨b,0,none⟩)) (.agg ⟨l'⟩)= .ok A'∧dj A' e b k l'∧A'.next=A.next∧∀x,x≠b→A'.get x=A.get x:=by
 obtain⟨c,h2,h3⟩:=h;have hst:eG (Bp k) 0 l' 0 c= .ok (c.bR 0 l'):=zD _ l' 0 c h1 fun j hj=>by
  rw [ZT,h3 j (by omega),Zi (show j<l.length by omega)];exact⟨_,rfl⟩
 refine⟨A.set b (.cells e k 0 (c.bR 0 l')),?_,⟨_,by rw [aC,if_pos rfl],fun i hi=>?_⟩,aO _ _ _,fun x hx=>by rw [aC,if_neg hx]⟩
 ·unfold aT;have hc:(Value.agg ⟨l'⟩).cells.toList=l':=rfl;simp only [hs,R.aw,hc];have hb:Zr l'.length l.length=true:=by rw [hl];simp
  rw [hb,cond_true];cases l' with
  |nil=>cases l with
   |nil=>exact absurd rfl h0
   |cons _ _=>simp at hl
  |cons v vs=>
   unfold c_;simp only [h2,hst,R.aw]
 ·rw [T.eI,if_pos ⟨Zv _,by omega⟩,qaA]
theorem aI {e t:TypeId} {k:Kd} {l:List Value} {d:TypeDesc} (hu:tb.bp t=some d) (ha:cH d=true) (hs:aV tb t= .ok l.length) (h:dj A e b k l):ai tb A.get t (.pointer (some ⟨b,0,none⟩))= .ok (.agg ⟨l⟩):=by
 obtain⟨c,h1,h2⟩:=h;have hg:c.iX l.length 0=some l:=fR _ _ _ _ rfl fun j hj=>by rw [ZT];exact h2 j hj
 unfold ai;simp only [h1,hu,ha,cond_true,hs,R.aw,hg]
theorem fe (A:Mem) (e:TypeId) (l:List Value):dj (A.alloc (aa e l)) e A.next (.var l.length) l:=ei (ay _ _)
variable {n:Nat}
theorem dh:∀{ls:List (List Value)},(∀l∈ls,l.length=n)→ls.flatten.length=ls.length*n
 | [],_=>by simp
 |l::ls,h=>by
  rw [qaO,Zo,dh (fun x hx=>h x (Zx _ hx)),h l (Zy ..),Zu,qbs,qcC,qck]
theorem e9:∀{ls:List (List Value)} {i j:Nat} {l:List Value},(∀l∈ls,l.length=n)→ls[i]?=some l→j<n→ls.flatten[i*n+j]?=l[j]?
 | [],i,j,l,_,hi,_=>by simp at hi
 |l0::ls,0,j,l,h,hi,hj=>by
  simp only [Zm,ZQ] at hi;subst hi;rw [qaO,qcM,ZT,ZU (by rw [h _ (Zy ..)];exact hj)]
 |l0::ls,i+1,j,l,h,hi,hj=>by
  simp only [Zk] at hi;have hl0:=h l0 (Zy ..);rw [qaO,ZN (by rw [hl0,qbs];omega),hl0,show(i+1)*n+j-n=i*n+j by rw [qbs,qcC];omega];exact e9 (fun x hx=>h x (Zx _ hx)) hi hj
def aq (A:Mem) (e:TypeId) (n b:Nat) (ls:List (List Value)) (x:Value):Prop:=
 (x= .slice none 0 0∧ls=[])∨∃k c,x= .slice (some ⟨b,0,none⟩) ls.length c∧b<A.next∧dj A e b k ls.flatten∧(∀l∈ls,l.length=n)∧(c=2*ls.length∨(c=gO ls.length n∧(k= .row∨k= .mark)))
theorem aq.nil (A:Mem) (e:TypeId) (n b:Nat):aq A e n b [] (.slice none 0 0):=.inl ⟨rfl,rfl⟩
variable {A':Mem}
theorem aq.same {e:TypeId} {ls:List (List Value)} {x:Value} (h:aq A e n b ls x) (hn:A.next≤A'.next) (hg:b<A.next→A'.get b=A.get b):aq A' e n b ls x:=by
 rcases h with h|⟨k,c,h1,h2,h3,h4⟩
 ·exact .inl h
 ·exact .inr ⟨k,c,h1,ZJ h2 hn,h3.same (hg h2),h4⟩
theorem aq.len {e t t':TypeId} {ls:List (List Value)} {x:Value} (h:aq A e n b ls x) (hu:tb.bp t=some (.slice t')):aL tb .len [t] [x]= .ok (.int .i64 (ls.length:Nat)):=by
 rcases h with⟨rfl,rfl⟩|⟨k,c,rfl,-⟩<;>exact ez hu
variable {i:Nat}
theorem aq.idx {e t t':TypeId} {kd:IntKind} {ls:List (List Value)} {x:Value} (h:aq A e n b ls x) (hu:tb.bp t=some (.slice t')) (hs:aV tb t'= .ok n) (hi:i<ls.length):
 aW tb t x (.int kd (i:Int))= .ok (.pointer (some ⟨b,i*n,none⟩)):=by
 rcases h with⟨rfl,rfl⟩|⟨k,c,rfl,-⟩
 ·simp at hi
 ·have hb:Zt i ls.length=true:=by rw [ZB];exact hi
  have hn:mo (.int kd (i:Int))= .ok i:=rfl;unfold aW;simp only [hn,hu,hb,cond_true,hs,R.aw,jd,ZT]
variable {j:Nat} {v:Value}
theorem aq.load {e t:TypeId} {d:TypeDesc} {ls:List (List Value)} {l:List Value} {x:Value} (h:aq A e n b ls x) (hu:tb.bp t=some d) (ha:cH d=false) (hi:ls[i]?=some l) (hj:l[j]?=some v) (hjn:j<n):
 ai tb A.get t (.pointer (some ⟨b,i*n+j,none⟩))= .ok v:=by
 rcases h with⟨rfl,rfl⟩|⟨k,c,rfl,h2,h3,h4,-⟩
 ·simp at hi
 ·exact aU hu ha h3 (by rw [e9 h4 hi hjn];exact hj)
theorem aq.aI {e t:TypeId} {d:TypeDesc} {ls:List (List Value)} {l:List Value} {x:Value} (h:aq A e n b ls x) (hu:tb.bp t=some d) (ha:cH d=true) (hs:aV tb t= .ok n) (hi:ls[i]?=some l):
 ai tb A.get t (.pointer (some ⟨b,i*n,none⟩))= .ok (.agg ⟨l⟩):=by
 rcases h with⟨rfl,rfl⟩|⟨k,c,rfl,h2,⟨cs,h5,h6⟩,h4,-⟩
 ·simp at hi
 ·have hl:l.length=n:=h4 l (ZM hi);have hlen:=dh h4;have hil:i<ls.length:=(Zl.1 hi).1;have hg:cs.iX n (i*n)=some l:=fR _ _ _ _ hl fun j hj=>by
   rw [h6 (i*n+j) (by
    rw [hlen];have:=qce n (show i+1≤ls.length from hil);rw [qbs,qcC] at this;omega),e9 h4 hi hj]
  unfold ai;simp only [h5,hu,ha,cond_true,hs,R.aw,hg]
variable {m:Nat}
theorem ep {e:TypeId} {k:Kd} {l:List Value} (h:dj A e b k l) (hl:l.length=m*n):cT A.get n m (some ⟨b,0,none⟩)= .ok l:=by
 obtain⟨c,h1,h2⟩:=h;unfold cT;simp only [];cases hn:Zr (m*n) 0 with
 |true=>
  have:l=[]:=Zw.1 (by rw [hl];exact ZA hn);subst this;rfl
 |false=>
  have hg:c.iX (m*n) 0=some l:=fR _ _ _ _ hl fun j hj=>by rw [ZT];exact h2 j (by omega)
  simp only [cond_false,h1,hg]
theorem aq.append {st xt e:TypeId} {i:TypeInfo} {z l:List Value} {b2:Nat} {ls:List (List Value)} {x:Value} (h:aq A e n b ls x) (hst:tb.bp st=some (.slice e)) (hxt:tb.bp xt=some (.slice e)) (hz:cg tb e= .ok (n,z)) (hi:tb.ty.get e=some i) (hib:0<i.bytes) (hib':i.bytes≤65536)
 (hn0:0<n) (hn1:n<65536) (hls:ls.length<16777216) (hb2:A.get b2=some (aa e l)) (hl:l.length=n) (h1c:∀v∈l,aH v=true):
 ∃x' A',ba tb A st xt x (.slice (some ⟨b2,0,none⟩) 1 2)= .ok (x',A')∧aq A' e n A.next (ls++[l]) x'∧A'.next=A.next+1∧∀y,(y=b→x= .slice none 0 0)→y<A.next→A'.get y=A.get y:=by
 have hnew:fZ A.get n 1 (.slice (some ⟨b2,0,none⟩) 1 2)= .ok l:=ep (ei (e:=e) (k:=.var l.length) hb2) (by rw [qcC];exact hl);have hlim:(Zj (ls.length+1) 16777216&&Zj i.bytes 65536&&Zt 0 i.bytes&&Zt 0 n&&Zt n 65536)=true:=by
  have a1:Zj (ls.length+1) 16777216=true:=qaf (by omega);have a2:Zj i.bytes 65536=true:=qaf hib';have a3:Zt 0 i.bytes=true:=by rw [ZB];exact hib
  have a4:Zt 0 n=true:=by rw [ZB];exact hn0
  have a5:Zt n 65536=true:=by rw [ZB];exact hn1
  rw [a1,a2,a3,a4,a5];rfl
 have hfl:(ls++[l]).flatten=ls.flatten++l:=by simp
 have fin:∀(k':Kd) (A0:Mem),A0.next=A.next→(∀y,y≠b→A0.get y=A.get y)→(k'= .row∨k'= .mark)→(∀l∈ls,l.length=n)→
  aq (A0.alloc (.cells e k' 0 (T.bR .e 0 (ls.flatten++l)))) e n A.next (ls++[l]) (.slice (some ⟨A.next,0,none⟩) (ls.length+1) (gO (ls.length+1) n))∧(A0.alloc (.cells e k' 0 (T.bR .e 0 (ls.flatten++l)))).next=A.next+1∧∀y,y≠b→y<A.next→(A0.alloc (.cells e k' 0 (T.bR .e 0 (ls.flatten++l)))).get y=A.get y:=by
  intro k' A0 hn hg hk' hall;refine⟨.inr ⟨k',_,by rw [Zo];rfl,by rw [ae];omega,ei ?_,fun y hy=>?_,.inr ⟨by rw [Zo];rfl,hk'⟩⟩,by rw [ae,hn],fun y hy hlt=>?_⟩
  ·rw [hfl,←hn];exact ay _ _
  ·rcases qas.1 hy with h|h
   ·exact hall y h
   ·rw [Z9.1 h];exact hl
  ·rw [aB (by omega),hg y hy]
 rcases h with⟨rfl,rfl⟩|⟨k,c,rfl,h2,h3,h4,h5⟩
 ·refine⟨.slice (some ⟨A.next,0,none⟩) 1 (gO 1 n),A.alloc (.cells e .row 0 (T.bR .e 0 ([]++l))),?_,?_⟩
  ·unfold ba cW;have hble:Zj (0+1) (bM 0)=false:=rfl;have hx:ec 0=true:=rfl;have hel:cT A.get n 0 none= .ok []:=rfl;simp only [hst,hxt,gH,cond_false,hz,R.aw,ji,hnew,hble,hi];simp only [ZG,ZT] at hlim;simp only [ZT,hlim,cond_true,hel,R.aw,hx]
  ·obtain⟨f1,f2,-⟩:=fin .row A rfl (fun _ _=>rfl) (.inl rfl) (fun l h=>by cases h);exact⟨f1,f2,fun y _ hy=>aB (by omega)⟩
 ·have hel:cT A.get n ls.length (some ⟨b,0,none⟩)= .ok ls.flatten:=ep h3 (dh h4);obtain⟨cs,hb',hcs⟩:=h3;rcases h5 with rfl|⟨rfl,hk⟩
  ·have hx:ec (2*ls.length)=true:=by show Zr (2*ls.length % 2) 0=true;rw [qcG];rfl
   have hcn:bM (2*ls.length)=ls.length:=by unfold bM;rw [hx,cond_true];show 2*ls.length/2=ls.length;omega
   have hble:Zj (ls.length+1) (bM (2*ls.length))=false:=by
    rw [hcn];cases hq:Zj (ls.length+1) ls.length with
    |false=>rfl
    |true=>have:=ZP hq;omega
   refine⟨_,A.alloc (.cells e .row 0 (T.bR .e 0 (ls.flatten++l))),?_,(fin .row A rfl (fun _ _=>rfl) (.inl rfl) h4).1,(fin .row A rfl (fun _ _=>rfl) (.inl rfl) h4).2.1,fun y hy=>(fin .row A rfl (fun _ _=>rfl) (.inl rfl) h4).2.2 y (fun e=>by cases hy e)⟩;unfold ba cW;simp only [hst,hxt,gH,cond_false,hz,R.aw,ji,hnew,hble,hi,hlim,cond_true,hel,hx]
  ·have hble:Zj (ls.length+1) (bM (gO ls.length n))=false:=by
    rw [cz hn1];cases hq:Zj (ls.length+1) ls.length with
    |false=>rfl
    |true=>have:=ZP hq;omega
   have hx:ec (gO ls.length n)=false:=cS _ _;have he:Zr (js (gO ls.length n)) n=true:=by rw [dS hn1];simp
   have hall:l.all aH=true:=qat.2 h1c;have hfz:(Zj 0 (0+ls.length*n)&&(Zr e e&&Zt 0 9223372036854775808))=true:=by
    have h0:Zt 0 9223372036854775808=true:=by rw [ZB];omega
    rw [h0];simp
   refine⟨_,(A.set b .dead).alloc (.cells e k 0 (T.bR .e 0 (ls.flatten++l))),?_,(fin k (A.set b .dead) (aO _ _ _) (fun y hy=>by rw [aC,if_neg hy]) hk h4).1,(fin k (A.set b .dead) (aO _ _ _) (fun y hy=>by rw [aC,if_neg hy]) hk h4).2.1,fun y hy=>(fin k (A.set b .dead) (aO _ _ _) (fun y hy=>by rw [aC,if_neg hy]) hk h4).2.2 y (fun e=>by cases hy e)⟩;unfold ba cW;simp only [hst,hxt,gH,cond_false,hz,R.aw,ji,hnew,hble,hi,hlim,cond_true,hel,hx,he,hall,qbu,hb',hfz];rcases hk with rfl|rfl<;>rfl
end
section
variable {tb:bL}
def TO (A:Mem) (e:TypeId) (n b:Nat) (ls:List (List Value)) (x:Value):Prop:=
 (x= .slice none 0 0∧ls=[])∨∃k c ex,x= .slice (some ⟨b,0,none⟩) ls.length c∧b<A.next∧dj A e b k (ls.flatten++ex)∧(∀l∈ls,l.length=n)∧dT c n=true∧ls.length≤bM c
variable {A:Mem} {n b:Nat}
theorem aq.BE {e:TypeId} {ls:List (List Value)} {x:Value} (hn:n<65536) (h:aq A e n b ls x):TO A e n b ls x:=by
 rcases h with h|⟨k,c,h1,h2,h3,h4,h5⟩
 ·exact .inl h
 ·refine .inr ⟨k,c,[],h1,h2,by rw [qap];exact h3,h4,?_,?_⟩
  ·rcases h5 with rfl|⟨rfl,_⟩
   ·unfold dT;rw [gX];rfl
   ·unfold dT;rw [cS,dS hn,cond_false];exact qdA n
  ·rcases h5 with rfl|⟨rfl,_⟩
   ·rw [eZ];exact Zn _
   ·rw [cz hn];exact Zn _
variable {i j:Nat}
theorem IC {ls:List (List Value)} (h:∀l∈ls,l.length=n) (hi:i<ls.length) (hj:j<n):i*n+j<ls.flatten.length:=by
 rw [dh h];have:=qce n (show i+1≤ls.length from hi);rw [qbs,qcC] at this;omega
theorem TO.self {e:TypeId} {ls:List (List Value)} {x:Value} (h:TO A e n b ls x) (d:Nat):bP (d+1) x x=true:=by
 rcases h with⟨rfl,-⟩|⟨k,c,ex,rfl,-⟩
 ·rfl
 ·exact my _ _ _ _
variable {m:Nat} {y:Value}
theorem aq.kN {st xt e:TypeId} {xd:TypeDesc} {i:TypeInfo} {z:List Value} {ls nl:List (List Value)} {x:Value} (h:aq A e n b ls x) (hst:tb.bp st=some (.slice e)) (hxt:tb.bp xt=some xd) (hxd:gH xd=false) (hz:cg tb e= .ok (n,z)) (hi:tb.ty.get e=some i) (hib:0<i.bytes) (hib':i.bytes≤65536)
 (hn0:0<n) (hn1:n<65536) (hls:ls.length+m≤16777216) (hy:ji y= .ok m) (hnew:fZ A.get n m y= .ok nl.flatten) (hm:nl.length=m) (hl:∀l∈nl,l.length=n) (h1c:∀v∈nl.flatten,aH v=true):
 ∃x' A' b',ba tb A st xt x y= .ok (x',A')∧aq A' e n b' (ls++nl) x'∧A.next≤A'.next∧(b'=b∨A.next≤b')∧∀y,(y=b→x= .slice none 0 0)→y<A.next→A'.get y=A.get y:=by
 subst hm;by_cases h0:nl.length=0
 ·have hnil:nl=[]:=Zw.1 h0;subst hnil;simp only [ZG,List.flatten_nil] at hy hnew;refine⟨x,A,b,?_,by rw [qap];exact h,Zn _,.inl rfl,fun _ _ _=>rfl⟩;rcases h with⟨rfl,rfl⟩|⟨k,c,rfl,h2,h3,h4,h5⟩
  ·unfold ba cW;simp only [hst,hxt,hxd,cond_false,hz,R.aw,hy,hnew];rfl
  ·have hc:ls.length≤bM c:=by
    rcases h5 with rfl|⟨rfl,_⟩
    ·rw [eZ];exact Zn _
    ·rw [cz hn1];exact Zn _
   have hble:Zj ls.length (bM c)=true:=qaf hc;have hst0:∀a,c_ A a []= .ok A:=fun _=>rfl
   unfold ba cW;simp only [hst,hxt,hxd,cond_false,hz,R.aw,hy,hnew,Z8,hble,cond_true,hst0]
 have hlim:(Zj (ls.length+nl.length) 16777216&&Zj i.bytes 65536&&Zt 0 i.bytes&&Zt 0 n&&Zt n 65536)=true:=by
  have a1:Zj (ls.length+nl.length) 16777216=true:=qaf (by omega);have a2:Zj i.bytes 65536=true:=qaf hib';have a3:Zt 0 i.bytes=true:=by rw [ZB];exact hib
  have a4:Zt 0 n=true:=by rw [ZB];exact hn0
  have a5:Zt n 65536=true:=by rw [ZB];exact hn1
  rw [a1,a2,a3,a4,a5];rfl
 have hfl:(ls++nl).flatten=ls.flatten++nl.flatten:=by simp
 have hll:(ls++nl).length=ls.length+nl.length:=Zo;have fin:∀(k':Kd) (A0:Mem),A0.next=A.next→(∀y,y≠b→A0.get y=A.get y)→(k'= .row∨k'= .mark)→(∀l∈ls,l.length=n)→
  aq (A0.alloc (.cells e k' 0 (T.bR .e 0 (ls.flatten++nl.flatten)))) e n A.next (ls++nl) (.slice (some ⟨A.next,0,none⟩) (ls.length+nl.length) (gO (ls.length+nl.length) n))∧A.next≤(A0.alloc (.cells e k' 0 (T.bR .e 0 (ls.flatten++nl.flatten)))).next∧∀y,y≠b→y<A.next→(A0.alloc (.cells e k' 0 (T.bR .e 0 (ls.flatten++nl.flatten)))).get y=A.get y:=by
  intro k' A0 hn hg hk' hall;refine⟨.inr ⟨k',_,by rw [hll],by rw [ae];omega,ei ?_,fun y hy=>?_,.inr ⟨by rw [hll],hk'⟩⟩,by rw [ae,hn];omega,fun y hy hlt=>?_⟩
  ·rw [hfl,←hn];exact ay _ _
  ·rcases qas.1 hy with h|h
   ·exact hall y h
   ·exact hl y h
  ·rw [aB (by omega),hg y hy]
 rcases h with⟨rfl,rfl⟩|⟨k,c,rfl,h2,h3,h4,h5⟩
 ·refine⟨.slice (some ⟨A.next,0,none⟩) (0+nl.length) (gO (0+nl.length) n),A.alloc (.cells e .row 0 (T.bR .e 0 ([]++nl.flatten))),A.next,?_,?_⟩
  ·unfold ba cW;have hble:Zj (0+nl.length) (bM 0)=false:=by
    cases hq:Zj (0+nl.length) (bM 0) with
    |false=>rfl
    |true=>
     have hq2:=ZP hq;have:bM 0=0:=rfl;omega
   have hx:ec 0=true:=rfl;have hel:cT A.get n 0 none= .ok []:=rfl;simp only [ZG] at hlim;simp only [hst,hxt,hxd,cond_false,hz,R.aw,hy,hnew,hble,hi,hlim,cond_true,hel,hx]
  ·obtain⟨f1,f2,-⟩:=fin .row A rfl (fun _ _=>rfl) (.inl rfl) (fun l h=>by cases h);exact⟨f1,f2,.inr (Zn _),fun y _ hy=>aB (by omega)⟩
 ·have hel:cT A.get n ls.length (some ⟨b,0,none⟩)= .ok ls.flatten:=ep h3 (dh h4);obtain⟨cs,hb',hcs⟩:=h3;rcases h5 with rfl|⟨rfl,hk⟩
  ·have hx:ec (2*ls.length)=true:=gX _;have hcn:bM (2*ls.length)=ls.length:=eZ _;have hble:Zj (ls.length+nl.length) (bM (2*ls.length))=false:=by
    rw [hcn];cases hq:Zj (ls.length+nl.length) ls.length with
    |false=>rfl
    |true=>have:=ZP hq;omega
   obtain⟨f1,f2,f3⟩:=fin .row A rfl (fun _ _=>rfl) (.inl rfl) h4;refine⟨_,A.alloc (.cells e .row 0 (T.bR .e 0 (ls.flatten++nl.flatten))),A.next,?_,f1,f2,.inr (Zn _),fun y hy=>f3 y (fun e=>by cases hy e)⟩;unfold ba cW;simp only [hst,hxt,hxd,cond_false,hz,R.aw,hy,hnew,hble,hi,hlim,cond_true,hel,hx]
  ·have hble:Zj (ls.length+nl.length) (bM (gO ls.length n))=false:=by
    rw [cz hn1];cases hq:Zj (ls.length+nl.length) ls.length with
    |false=>rfl
    |true=>have:=ZP hq;omega
   have hx:ec (gO ls.length n)=false:=cS _ _;have he:Zr (js (gO ls.length n)) n=true:=by rw [dS hn1];simp
   have hall:nl.flatten.all aH=true:=qat.2 h1c;have hfz:(Zj 0 (0+ls.length*n)&&(Zr e e&&Zt 0 9223372036854775808))=true:=by
    have h0:Zt 0 9223372036854775808=true:=by rw [ZB];omega
    rw [h0];simp
   obtain⟨f1,f2,f3⟩:=fin k (A.set b .dead) (aO _ _ _) (fun y hy=>by rw [aC,if_neg hy]) hk h4;refine⟨_,(A.set b .dead).alloc (.cells e k 0 (T.bR .e 0 (ls.flatten++nl.flatten))),A.next,?_,f1,f2,.inr (Zn _),fun y hy=>f3 y (fun e=>by cases hy e)⟩;unfold ba cW;simp only [hst,hxt,hxd,cond_false,hz,R.aw,hy,hnew,hble,hi,hlim,cond_true,hel,hx,he,hall,qbu,hb',hfz];rcases hk with rfl|rfl<;>rfl
variable {dst:Option Tmp}
theorem bk {ih:Code→St→R (Ex×St)} {ty:TypeId} {pos:String} {after:Array Edge} {g:Option (Nat×Bool)} {s:St} {k:St→R (Ex×St)} (t:TypeId) (x y:Operand) (r:TypeId) (h:lh (tb.bp t)=false):dK tb ih {dst,op:=.binOp .eql t x y r,type:=ty,pos,after,guard:=g} s k=
 (ev s.t x).bind fun a=>(ev s.t y).bind fun b=>(wH tb s.m.get .eql t x y a b).bind fun v=>bQ s dst v k:=by
 rw [nc (hc:=by unfold cls;simp only [h,cond_false]) (hi:=rfl)];simp only [nz,R.a7]
theorem yP {ih:Code→St→R (Ex×St)} {ty:TypeId} {pos:String} {after:Array Edge} {g:Option (Nat×Bool)} {s:St} {k:St→R (Ex×St)} (t:TypeId) (x y:Operand) (r:TypeId) (h:lh (tb.bp t)=false):dK tb ih {dst,op:=.binOp .neq t x y r,type:=ty,pos,after,guard:=g} s k=
 (ev s.t x).bind fun a=>(ev s.t y).bind fun b=>(wH tb s.m.get .neq t x y a b).bind fun v=>bQ s dst v k:=by
 rw [nc (hc:=by unfold cls;simp only [h,cond_false]) (hi:=rfl)];simp only [nz,R.a7]
def fieldsOf:Option TypeDesc→List (Bool×TypeId×Nat)
 |some (.struct fs)=>fs.toList.map fun f=>(f.name== "_",f.type,f.offset)
 |_=>[]
def NR:Option TypeDesc→Bool
 |some (.struct _)=>true
 |_=>false
def iw (tb:bL) (eq:TypeId→Value→Value→R Bool) (xs ys:List Value):List (Bool×TypeId×Nat)→R Bool
 | []=>.ok true
 |(n,t,o)::fs=>bif n then .no 85 else
  (jo tb t xs o).bind fun a=>(jo tb t ys o).bind fun b=>(eq t a b).bind fun
   |true=>iw tb eq xs ys fs
   |false=>.ok false
theorem yd (eq:TypeId→Value→Value→R Bool) (xs ys:List Value):∀fs:List Field,iV tb eq xs ys fs=iw tb eq xs ys (fs.map fun f=>(f.name== "_",f.type,f.offset))
 | []=>rfl
 |f::fs=>by
  have ih:=yd eq xs ys fs;show iV tb eq xs ys (f::fs)=iw tb eq xs ys ((f.name== "_",f.type,f.offset)::fs.map fun f=>(f.name== "_",f.type,f.offset));unfold iV iw;cases f.name== "_" with
  |true=>rfl
  |false=>
   simp only [cond_false];cases jo tb f.type xs f.offset with
   |no _=>rfl
   |ok a=>
    cases jo tb f.type ys f.offset with
    |no _=>rfl
    |ok b=>
     simp only [R.aw];cases eq f.type a b with
     |no _=>rfl
     |ok r=>cases r with
      |true=>exact ih
      |false=>rfl
theorem se {g:Nat→Option Ob} {t:TypeId} {sh:List (Bool×TypeId×Nat)} (h1:NR (tb.bp t)=true) (h2:fieldsOf (tb.bp t)=sh) (h3:tb.P.stoodInHeld t=false) (d:Nat) (xs ys:Array Value):
 ed tb g (d+1) t (.agg xs) (.agg ys)=iw tb (ed tb g d) xs.toList ys.toList sh:=by
 subst h2;unfold ed;cases hu:tb.bp t with
 |none=>rw [hu] at h1;cases h1
 |some ds=>
  cases ds with
  |struct fs=>
   simp only [h3,cond_false];rw [yd];rfl
  |_=>rw [hu] at h1;cases h1
variable {k':IntKind}
theorem pv {g:Nat→Option Ob} {t:TypeId} {k:IntKind} (h:tb.bp t=some (.int k)) (d:Nat) (a b:Int):ed tb g (d+1) t (.int k' a) (.int k' b)= .ok (decide (a=b)):=by
 unfold ed;have hk:dU k' k'=true:=by cases k'<;>rfl
 simp only [h,hk,cond_true,kV];rfl
theorem Ko {g:Nat→Option Ob} {t:TypeId} (h:tb.bp t=some .string) (d:Nat) (a b:List UInt8):ed tb g (d+1) t (strOf a) (strOf b)= .ok (decide (a=b)):=by
 unfold ed;simp only [h,strOf,dk];congr 1;rw [qaE];simp
theorem Gz {g:Nat→Option Ob} {t:TypeId} (h:tb.bp t=some .bool) (d:Nat) (a b:Bool):ed tb g (d+1) t (.bool a) (.bool b)= .ok (decide (a=b)):=by
 unfold ed;simp only [h];cases a<;>cases b<;>rfl
variable {o:Nat} {v:Value}
theorem gu {t:TypeId} {cs:List Value} {d:TypeDesc} (h:tb.bp t=some d) (ha:cH d=false) (hv:cs[o]?=some v):jo tb t cs o= .ok v:=by
 unfold jo;simp only [h,ha,cond_false,hv]
end
section
variable {tb:bL} (ok:cc tb)
def nf:Value→Bool
 | .int _ _=>true
 | .string _=>true
 | .bool _=>true
 |_=>false
variable {ι:dg} {v:Value}
theorem Ov (h:nf v=true):VR ι v v:=by
 cases v<;>first|exact .int _ _|exact .string _|exact .bool _|cases h
def Tq:List Value→Nat→T Value→T Value
 | [],_,c=>c
 |v::l,i,c=>Tq l (i+1) (bif nf v then c.set i v else c)
def Zd:Obj→Ob
 | .cells cs t fr=>.cells t .row (2*(9223372036854775808+cs.size+fr.2+1)) (Tq cs.toList 0 .e)
 |_=>.dead
def vf (w:World) (ex:List (Option Loc)) (b:Nat):Option Loc:=
 if b<w.heap.size then match w.heap[b]? with
  |some (.cells cs _ _)=>some ⟨b,0,cs.size⟩
  |_=>none
 else(ex[b-w.heap.size]?).join
variable {b:Nat} {cs:Array Value}
theorem zP {w:World} {ex:List (Option Loc)} {t:TypeId} {fr:Nat×Nat} (h:w.heap[b]?=some (.cells cs t fr)):vf w ex b=some ⟨b,0,cs.size⟩:=by
 unfold vf;rw [if_pos (ZE.1 h).1,h]
end
section
variable {tb:bL} (ok:cc tb)
def yw (g:Nat→Value→Option Value):List Value→Nat→T Value→T Value
 | [],_,c=>c
 |v::l,i,c=>yw g l (i+1) (match g i v with|some u=>c.set i u|none=>c)
theorem ur (g:Nat→Value→Option Value):∀(l:List Value) (i:Nat) (c:T Value) (j:Nat),(yw g l i c).get j=if i≤j∧j<i+l.length∧(l[j-i]?.bind (g j)).isSome=true then l[j-i]?.bind (g j) else c.get j
 | [],i,c,j=>by
  unfold yw;rw [if_neg (fun h=>by
   have:=h.2.1;simp only [ZG] at this;omega)]
 |v::l,i,c,j=>by
  unfold yw;rw [ur g l (i+1)];by_cases hj:j=i
  ·subst hj;rw [if_neg (by omega),qaz,Zm,qbg];cases hp:g j v with
   |some u=>
    rw [if_pos ⟨Zn _,by simp,rfl⟩];show(c.set j u).get j=_;rw [T.aD,if_pos rfl]
   |none=>rw [if_neg (fun h=>by simp at h)]
  ·have hc:(match g i v with|some u=>c.set i u|none=>c:T Value).get j=c.get j:=by
    cases g i v with
    |some u=>
     show(c.set i u).get j=_;rw [T.aD,if_neg hj]
    |none=>rfl
   rw [hc];by_cases hij:i+1≤j
   ·have e:(v::l)[j-i]?=l[j-(i+1)]?:=by
     rw [show j-i=(j-(i+1))+1 by omega,Zk]
    rw [e];simp only [Zu];by_cases hx:j<i+1+l.length∧(l[j-(i+1)]?.bind (g j)).isSome=true
    ·rw [if_pos ⟨hij,hx.1,hx.2⟩,if_pos ⟨by omega,by omega,hx.2⟩]
    ·rw [if_neg (fun h=>hx h.2),if_neg (fun h=>hx ⟨by omega,h.2.2⟩)]
   ·rw [if_neg (fun h=>hij h.1),if_neg (fun h=>by omega)]
variable {j:Nat}
theorem GQ {g:Nat→Value→Option Value} {l:List Value} {u:Value} (h:(yw g l 0 .e).get j=some u):∃v,l[j]?=some v∧g j v=some u:=by
 rw [ur] at h;split at h
 ·rw [qaA,Option.bind_eq_some_iff] at h;exact h
 ·rw [T.jT] at h;cases h
variable {v:Value}
theorem A7 {g:Nat→Value→Option Value} {l:List Value} {u:Value} (h:l[j]?=some v) (hp:g j v=some u):(yw g l 0 .e).get j=some u:=by
 rw [ur,qaA,h,qbg,hp,if_pos ⟨Zv _,by have:=(Zl.1 h).1;omega,rfl⟩]
def Vx (g:Nat→Value→Option Value):Obj→Ob
 | .cells cs t fr=>.cells t .row (2*(9223372036854775808+cs.size+fr.2+1)) (yw g cs.toList 0 .e)
 |_=>.dead
def pc (w:World) (n:Nat) (N:Nat→Nat→Value→Option Value):Mem:=
 ⟨T.ofList ((qay w.heap.size).map fun b=>match w.heap[b]? with|some o=>Vx (N b) o|none=>.dead),w.heap.size+n⟩
theorem mB (w:World) (n:Nat) (N:Nat→Nat→Value→Option Value) (b:Nat):(pc w n N).get b=(w.heap[b]?).map (Vx (N b)):=by
 show(T.ofList _).get b=_;rw [T.iy,ZH];by_cases hb:b<w.heap.size
 ·rw [qbq hb,Z1,qca hb];rfl
 ·rw [Z7 (by simpa using hb),Array.getElem?_eq_none (by omega)];rfl
variable {b:Nat}
theorem pS {w:World} {ex:List (Option Loc)} {N:Nat→Nat→Value→Option Value} {o:Ob} {l:Loc} (hg:(pc w ex.length N).get b=some o) (hl:vf w ex b=some l):∃cs t fr,w.heap[b]?=some (.cells cs t fr)∧o=Vx (N b) (.cells cs t fr)∧l=⟨b,0,cs.size⟩:=by
 rw [mB] at hg;cases hb:w.heap[b]? with
 |none=>rw [hb] at hg;cases hg
 |some o'=>
  rw [hb] at hg;have hlt:=(ZE.1 hb).1;unfold vf at hl;rw [if_pos hlt,hb] at hl;cases o' with
  |cells cs t fr=>
   cases hl;exact⟨cs,t,fr,rfl,(Z_ hg).symm,rfl⟩
  |_=>cases hl
def XR (w:World) (ex:List (Option Loc)) (N:Nat→Nat→Value→Option Value):Prop:=∀(b i:Nat) (v u:Value),N b i v=some u→VR (vf w ex) u v
theorem Xx (w:World) (ex:List (Option Loc)) (hex:∀l,some l∈ex→l.blk<w.heap.size) {N:Nat→Nat→Value→Option Value} (hN:XR w ex N):Rel (vf w ex) (pc w ex.length N) w:=by
 refine⟨fun b hb=>?_,fun b o l hg _ hl=>?_,fun b l hl=>?_,fun b b' l l' hb hb' hl hl' he=>?_,fun b t k c hb=>?_⟩
 ·have hb':w.heap.size+ex.length≤b:=hb;rw [mB,Array.getElem?_eq_none (by omega)];rfl
 ·obtain⟨cs,t,fr,h1,rfl,rfl⟩:=pS hg hl;refine⟨_,h1,cs,fr,rfl,rfl,fun i u hu=>?_,?_⟩
  ·obtain⟨v,h2,h3⟩:=GQ hu;rw [ZK] at h2;exact⟨v,h2,hN _ _ _ _ h3⟩
  ·show fr.2≤0+(2*(9223372036854775808+cs.size+fr.2+1));omega
 ·unfold vf at hl;split at hl
  ·rename_i hlt;split at hl
   ·cases hl;exact hlt
   ·cases hl
  ·cases hx:ex[b-w.heap.size]? with
   |none=>rw [hx] at hl;cases hl
   |some ol=>
    rw [hx] at hl;cases ol with
    |none=>cases hl
    |some l0=>
     cases hl;exact hex _ (ZM hx)
 ·obtain⟨o,hg,_⟩:=hb;obtain⟨o',hg',_⟩:=hb';obtain⟨_,_,_,_,_,rfl⟩:=pS hg hl;obtain⟨_,_,_,_,_,rfl⟩:=pS hg' hl';exact he
 ·rw [mB] at hb;cases h:w.heap[b]? with
  |none=>rw [h] at hb;cases hb
  |some o=>
   rw [h] at hb;have h2:=Z_ hb;cases o with
   |cells cs t' fr=>
    have h3:2*(9223372036854775808+cs.size+fr.2+1)=GB k:=by injection h2
    unfold GB at h3;omega
   |_=>cases h2
include ok in
theorem J5 {w:World} (ex:List (Option Loc)) (hex:∀l,some l∈ex→l.blk<w.heap.size) {N:Nat→Nat→Value→Option Value} (hN:XR w ex N) {f:FuncId} {fn:Func} {c:Code} (hf:tb.fn.get f=some fn) (hb:fn.body=some c) {args:List Value} {args':Array Value} (ha:dG (vf w ex) args args'.toList)
 (hlaw:∃A',jq tb f args (pc w ex.length N) (.bool true) A'):Calls tb.P f args' w fun e w'=>e= .returned (.bool true)∧Leaves w w':=by
 intro cs;obtain⟨A',n,hc⟩:=hlaw;obtain⟨e,w',fr,⟨ι',v',he,hv,hl⟩,st⟩:=Gn ok hc hf hb args' w (Xx w ex hex hN) ha (fun b hb=>by
  have hb':w.heap.size+ex.length≤b:=hb;unfold vf;rw [if_neg (by omega),Z7 (by omega)];rfl) (fun b l hb hl=>by
  obtain⟨o,hg,_⟩:=hb;obtain⟨cs,t,fr,h1,rfl,rfl⟩:=pS hg hl;refine⟨?_,t,_,_,hg,by omega,?_⟩
  ·show b<w.heap.size+ex.length;have:=(ZE.1 h1).1;omega
  ·show cs.size<2*(9223372036854775808+cs.size+fr.2+1);omega) cs
 cases hv;exact⟨e,w',fr,⟨he,hl⟩,st⟩
def D7:Value:=.complex .f32 0 0
open Classical in
def Ax (w:World) (n:Nat) (v:Value):Option Value:=
 if nf v=true then some v else match v with
 | .slice none len cap=>if len=0∧cap=0 then some (.slice none 0 0) else none
 | .slice (some x) len cap=>
  if len=0∧cap=0 then some D7
  else if VR (vf w []) (.slice (some ⟨x.block,x.off,none⟩) len (gO len n)) (.slice (some x) len cap) then some (.slice (some ⟨x.block,x.off,none⟩) len (gO len n))
  else none
 |_=>none
variable {n:Nat}
theorem Mr {w:World} {u:Value} (h:Ax w n v=some u):VR (vf w []) u v:=by
 unfold Ax at h;split at h
 ·rename_i hp;cases h;exact Ov hp
 ·split at h
  ·split at h
   ·rename_i hh;obtain⟨rfl,rfl⟩:=hh;cases h;exact .slN
   ·cases h
  ·split at h
   ·rename_i hh;obtain⟨rfl,rfl⟩:=hh;cases h;exact .emp _
   ·split at h
    ·rename_i hh;cases h;exact hh
    ·cases h
  ·cases h
theorem tL {w:World} (h:nf v=true):Ax w n v=some v:=by
 unfold Ax;rw [if_pos h]
theorem H7 {w:World}:Ax w n (.slice none 0 0)=some (.slice none 0 0):=by
 unfold Ax;rw [if_neg (by decide)];simp
theorem H6 {w:World} {x:Addr}:Ax w n (.slice (some x) 0 0)=some D7:=by
 unfold Ax;rw [if_neg (by simp [nf])];simp
def BQ (w:World) (n:Nat) (v:Value) (len:Nat) (cs:List Value):Prop:=
 (v= .slice none 0 0∧len=0)∨(∃x,v= .slice (some x) 0 0∧len=0)∨
 ∃x cap,v= .slice (some x) len cap∧0<cap∧len≤cap∧cap<2^63∧(∀i,i<cap*n→∃u,w.cell? (x.add i)=some u)∧cs.length=len*n∧∀(i:Nat) (c:Value),cs[i]?=some c→w.cell? (x.add i)=some c
def VZ (A:Mem) (N:Nat→Nat→Value→Option Value) (n len:Nat) (cs:List Value) (x:Value):Prop:=
 (x= .slice none 0 0∧len=0)∨(x=D7∧len=0)∨
 ∃q off,x= .slice (some ⟨q,off,none⟩) len (gO len n)∧q<A.next∧(len*n=0∨∃t fz c,A.get q=some (.cells t .row fz c)∧∀(i:Nat) (v u:Value),i<len*n→cs[i]?=some v→N q (off+i) v=some u→c.get (off+i)=some u)
variable {i:Nat}
theorem w_ {w:World} {x:Addr} (hs:x.spot=none) (h:w.cell? (x.add i)=some v):∃cs t fr,w.heap[x.block]?=some (.cells cs t fr)∧cs[x.off+i]?=some v:=by
 obtain⟨xb,xo,xs⟩:=x;simp only at hs;subst hs;rw [ct] at h;unfold World.cell? at h;split at h
 ·rename_i cs t fr hw;have hw':w.heap[xb]?=some (.cells cs t fr):=hw;simp only [qaB,Zz,if_false] at h;exact⟨cs,t,fr,hw',h⟩
 ·cases h
theorem AL {w:World} {x:Addr} (h:w.cell? (x.add 0)=some v):x.spot=none:=by
 have h0:x.add 0=x:=rfl;rw [h0] at h;unfold World.cell? at h;split at h
 ·split at h
  ·cases h
  ·rename_i hn;cases hs:x.spot with
   |none=>rfl
   |some y=>rw [hs] at hn;simp at hn
 ·cases h
theorem Xc {w:World} {len:Nat} {cs:List Value} {N:Nat→Nat→Value→Option Value} (hn0:0<n) (hn:n<65536) (h:BQ w n v len cs):
 ∃x,Ax w n v=some x∧VZ (pc w 0 N) N n len cs x:=by
 rcases h with⟨rfl,rfl⟩|⟨x,rfl,rfl⟩|⟨x,cap,rfl,hc0,hlc,hcap,hall,hcl,hcell⟩
 ·exact⟨_,H7,.inl ⟨rfl,rfl⟩⟩
 ·exact⟨_,H6,.inr (.inl ⟨rfl,rfl⟩)⟩
 ·have hpos:0<cap*n:=Nat.mul_pos hc0 hn0;obtain⟨u0,hu0⟩:=hall 0 hpos;have hsp:=AL hu0;obtain⟨xb,xo,xs⟩:=x;simp only at hsp;subst hsp;have h1:bM (gO len n)=len:=cz hn;have h2:js (gO len n)=n:=dS hn;have hnp:¬nf (.slice (some ⟨xb,xo,none⟩) len cap)=true:=by simp [nf]
  obtain⟨u,hu⟩:=hall (cap*n-1) (by omega);obtain⟨cs',t,fr,hw,hu2⟩:=w_ rfl hu;have hsz:=(ZE.1 hu2).1;have hblk:xb<w.heap.size:=(ZE.1 hw).1;have hreal:VR (vf w []) (.slice (some ⟨xb,xo,none⟩) len (gO len n)) (.slice (some ⟨xb,xo,none⟩) len cap):=by
   refine VR.slX (l:=⟨xb,0,cs'.size⟩) (o':=xo) (zP hw) (cS _ _) (by rw [h1];exact hlc) ?_ (fun _=>by simp) hcap (by rw [h1];exact Zn _);rw [h2];have e:xo+(cap*n-1)<cs'.size:=hsz;show xo+cap*n≤cs'.size;omega
  refine⟨.slice (some ⟨xb,xo,none⟩) len (gO len n),?_,.inr (.inr ⟨xb,xo,rfl,hblk,?_⟩)⟩
  ·unfold Ax;rw [if_neg hnp];simp only [if_neg (show¬(len=0∧cap=0) by omega),if_pos hreal]
  ·by_cases h0:len*n=0
   ·exact .inl h0
   ·right;refine⟨t,_,_,by rw [mB,hw];rfl,fun i v u hi hv hu=>A7 ?_ hu⟩;obtain⟨cs2,t2,fr2,hw2,hv2⟩:=w_ rfl (hcell i v hv);rw [hw] at hw2;cases hw2;rw [ZK];exact hv2
end
section
variable {tb:bL} (ok:cc tb) {ι:dg}
structure JY where
 f:FuncId
 fn:Func
 c0:Code
 id1:Nat
 o1:Oper
 od:Oper
 c2:Code
 x:Tmp
 g:FuncId
 gf:Func
 id3:Nat
 orc:Oper
 t:Tmp
 c3:Code
structure L_ (tb:bL) (D:JY):Prop where
 hf:tb.fn.get D.f=some D.fn
 hb:D.fn.body=some (.seq D.c0 (.seq (.region D.id1 #[D.o1,D.od] false) D.c2))
 hod:D.od.op= .defer {callee:=.value (.tmp D.x),args:= #[],argTypes:= #[]}
 go1:D.o1.guard=none
 god:D.od.guard=none
 dod:D.od.dst=none
 hg:tb.fn.get D.g=some D.gf
 hgb:D.gf.body=some (.seq (.region D.id3 #[D.orc] false) D.c3)
 horc:D.orc.op= .call {callee:=.builtin .recover,args:= #[],argTypes:= #[]}
 dorc:D.orc.dst=some D.t
 gorc:D.orc.guard=none
 ht:D.t<D.gf.ntmps
 hres:D.gf.results= #[]
 hng:(D.gf.name== "runtime.NumGoroutine")=false
def Oy (tb:bL) (D:JY) (n:Nat) (cap:List Value) (rv:Value) (A:Mem):R Mem:=
 bif Zj cap.length D.gf.ntmps then
  (exec tb n D.c3 {t:=(T.bR .e 0 cap).set D.t rv,n:=D.gf.ntmps,d:=[],m:=A,ro:=none}).bind fun(e,s)=>
  match e with
  | .kh _=>.no 710
  | .exit _=>.no 711
  |_=>fc s.d s.m
 else .no 712
def il (tb:bL) (D:JY) (n:Nat):List Value→Mem→R (Value×Mem):=fun args A=>
 bif Zj args.length D.fn.ntmps then
  (exec tb n D.c0 {t:=T.bR .e 0 args,n:=D.fn.ntmps,d:=[],m:=A,ro:=none}).bind fun(e0,s0)=>
  match e0 with
  | .nrm=>(dK tb (exec tb n) D.o1 s0 fun s=>.ok (.nrm,s)).bind fun(e1,s1)=>
   match e1,s1.d,s1.t.get D.x with
   | .nrm,[],some (.func (.func g') first cap)=>bif Zr g' D.g then
    (exec tb n D.c2 s1).bind fun(e2,s2)=>
    (match e2 with
     | .kh v=>match s2.d with
      | []=>R.ok (v,s2.m)
      |_=>.no 701
     | .exit _=>.no 702
     |_=>(fc s2.d s2.m).bind fun A1=>.ok (.nilIface,A1)).bind fun(rv,A1)=>
    (Oy tb D n (first.toList++cap.toList) rv A1).bind fun A2=>
    (fj tb s2.t A2.get D.fn.results.toList).bind fun vs=>.ok (oneOf vs,A2)
    else .no 703
   |_,_,_=>.no 704
  |_=>.no 705
 else .no 706
variable {f:FuncId} {fn:Func}
theorem oh {P:Program} {c:Code} (hf:P.funcs[f]?=some fn) (hb:fn.body=some c) (args:Array Value) (kd:CallKind):
 Frame.enter P f args kd=(Frame.enter P f args kd).atR ⟨args++qbb (fn.ntmps-args.size) undef,[]⟩ [.code c]:=by
 simp [Frame.enter,Frame.atR,hf,hb]
section steps
variable {P:Program} {b:Frame} {a:Act} {k:List Item} {cs:List Frame} {w w':World} {ops:Array Oper} {i:Nat} {rest:List Nat} {o:Oper}
theorem zz {d:Deferred} (hr0:b.roundOf=none) (ho:ops[i]?=some o) (hw:Region.wanted o (yielded ops a.tmps)=true) (hr:(execOp a.eval o).run P w= .ok (.defer d) w') (hd:o.dst=none):
 step P (lone (b.atR a (.inRegion ops (i::rest)::k)) cs w)= .next (lone (b.atR {a with defers:=d::a.defers} (.inRegion ops rest::k)) cs w'):=by
 have hg:=stepGR_op (P:=P) (b:=b) (k:=k) (cs:=cs) (w:=w) (rest:=rest) ho hw;rw [hr0,Oper.semAt_none] at hg;have hfin:({b.atR a (.inRegion ops (i::rest)::k) with defers:=d::a.defers}:Frame).finish undef=b.atR {a with defers:=d::a.defers} (.inRegion ops rest::k):=by
  have:=Frame.finish_atR b {a with defers:=d::a.defers} ops i rest k undef;rw [ho] at this;simp only [qbg,hd,Act.put] at this;exact this
 refine step_lone_go ?_;rw [hg];simp [stepG.apply,hr];exact hfin
theorem qa (hr0:b.roundOf=none) (ho:ops[i]?=some o) (hw:Region.wanted o (yielded ops a.tmps)=true) (hr:(execOp a.eval o).run P w= .ok .recover w') (ht:tryRecover (b.atR a (.inRegion ops (i::rest)::k)) cs=none):
 step P (lone (b.atR a (.inRegion ops (i::rest)::k)) cs w)= .next (lone (b.atR (a.put o.dst .nilIface) (.inRegion ops rest::k)) cs w'):=by
 have hg:=stepGR_op (P:=P) (b:=b) (k:=k) (cs:=cs) (w:=w) (rest:=rest) ho hw;rw [hr0,Oper.semAt_none] at hg;have hfin:∀v,(b.atR a (.inRegion ops (i::rest)::k)).finish v=b.atR (a.put o.dst v) (.inRegion ops rest::k):=by
  intro v;rw [Frame.finish_atR,ho];rfl
 have hro:(b.atR a (.inRegion ops (i::rest)::k)).roundOf=none:=hr0;refine step_lone_go ?_;rw [hg];simp [stepG.apply,hr,hro,ht,hfin]
variable {v:Value}
theorem oZ {cs':List Frame} (hr0:b.roundOf=none) (ho:ops[i]?=some o) (hw:Region.wanted o (yielded ops a.tmps)=true) (hr:(execOp a.eval o).run P w= .ok .recover w') (ht:tryRecover (b.atR a (.inRegion ops (i::rest)::k)) cs=some (v,cs')):
 step P (lone (b.atR a (.inRegion ops (i::rest)::k)) cs w)= .next (lone (b.atR (a.put o.dst v) (.inRegion ops rest::k)) cs' w'):=by
 have hg:=stepGR_op (P:=P) (b:=b) (k:=k) (cs:=cs) (w:=w) (rest:=rest) ho hw;rw [hr0,Oper.semAt_none] at hg;have hfin:∀v,(b.atR a (.inRegion ops (i::rest)::k)).finish v=b.atR (a.put o.dst v) (.inRegion ops rest::k):=by
  intro v;rw [Frame.finish_atR,ho];rfl
 have hro:(b.atR a (.inRegion ops (i::rest)::k)).roundOf=none:=hr0;refine step_lone_go ?_;rw [hg];simp [stepG.apply,hr,hro,ht,hfin]
theorem tq {fr:Frame} {d:Deferred} {ds:List Deferred} {g:FuncId} {args:Array Value} (hd:fr.defers=d::ds) (hmode:fr.mode= .returning∨∃ch,fr.mode= .panicking ch)
 (ht:∃t c,d.target= .fn t c) (hr:(invoke d.target d.args).run P w= .ok (.enter g args) w'):
 step P (lone fr cs w)= .next (lone (Frame.enter P g args .deferred) ({fr with defers:=ds}::cs) w'):=by
 obtain⟨t,c,ht⟩:=ht;obtain⟨tg,Ze⟩:=d;simp only at ht hr;subst ht;refine step_lone_go ?_;rcases hmode with hm|⟨ch,hm⟩
 ·simp [stepG,unwind,hm,hd,callDeferred,hr]
 ·simp [stepG,unwind,hm,hd,callDeferred,hr]
theorem tu {fr c:Frame} (hm:fr.mode= .returning) (hd:fr.defers=[]) (hk:fr.kind= .deferred) (hf:P.funcs[fr.fn]?=some fn) (hr:(results fn fr.tmps).run P w= .ok v w):
 (c.mode= .returning→step P (lone fr (c::cs) w)= .next (lone c cs w))∧
 (∀x,c.mode= .panicking [{v:=x,recovered:=true}]→step P (lone fr (c::cs) w)= .next (lone {c with mode:=.returning} cs w)):=by
 refine⟨fun hc=>step_lone_go ?_,fun x hc=>step_lone_go ?_⟩
 ·simp [stepG,unwind,hm,hd,hf,hr,doReturn,hk,hc]
 ·simp [stepG,unwind,hm,hd,hf,hr,doReturn,hk,hc]
end steps
theorem vj {P:Program} {b:Frame} {a:Act} {e:Ex} {k:List Item} {cs:List Frame} {w:World} (hb:b.roundOf=none) (he:e= .nrm∨e= .ret) (ha:HY e [] k):
 ∃todo,Steps P (lone (b.atR a k) cs w) (lone {b.atR ⟨a.tmps,a.defers⟩ todo with mode:=.returning} cs w):=by
 rcases he with rfl|rfl
 ·cases (show k=[] from ha);exact⟨[],.one (stepR_end hb)⟩
 ·obtain⟨k2,rfl⟩:=ha;exact⟨_,.one (stepR_ret hb)⟩
variable {D:JY} (hD:L_ tb D)
include ok hD in
theorem yZ {n:Nat} {cap:List Value} {rv:Value} {A A2:Mem} (h:Oy tb D n cap rv A= .ok A2):
 A.next≤A2.next∧∀(ι:dg) (w:World) (cap':Array Value) (rv':Value) (fr:Frame) (cs:List Frame),Rel ι A w→dG ι cap cap'.toList→VR ι rv rv'→eM ι A A2→
  (fr.mode= .returning∧rv'= .nilIface∨fr.mode= .panicking [{v:=rv',recovered:=false}])→
  ∃ι' w',Steps tb.P (lone (Frame.enter tb.P D.g cap' .deferred) (fr::cs) w) (lone {fr with mode:=.returning} cs w')∧Rel ι' A2 w'∧eE ι A w ι' A2 w':=by
 have hg':=ok.fn _ _ hD.hg;unfold Oy at h;cases hnb:Zj cap.length D.gf.ntmps with
 |false=>rw [hnb] at h;cases h
 |true=>
 rw [hnb,cond_true] at h;have hn:=ZP hnb;obtain⟨⟨e,s1⟩,h1,h2⟩:=R.ag h;have he:(e= .nrm∨e= .ret)∧fc s1.d s1.m= .ok A2:=by
  cases e with
  |kh _=>cases h2
  |exit _=>cases h2
  |nrm=>exact⟨.inl rfl,h2⟩
  |ret=>exact⟨.inr rfl,h2⟩
 obtain⟨he,h4⟩:=he;have hnx:=j' h4;rcases jP ok n _ _ _ _ h1 with⟨v,rfl,_⟩|⟨hle,hc⟩
 ·rcases he with he|he<;>cases he
 refine⟨by rw [hnx];exact hle,fun ι w cap' rv' fr cs hr ha hrv hfree hmode=>?_⟩;have hfree':eM ι A s1.m:=fun b h1 h2=>hfree b h1 (by rw [hnx];exact h2)
 have hent:=oh hg' hD.hgb cap' .deferred;have hro:(Frame.enter tb.P D.g cap' .deferred).roundOf=none:=rfl;have hkd:(Frame.enter tb.P D.g cap' .deferred).kind= .deferred:=rfl;have hdf:(Frame.enter tb.P D.g cap' .deferred).defers=[]:=rfl;have hfn:(Frame.enter tb.P D.g cap' .deferred).fn=D.g:=rfl;generalize Frame.enter tb.P D.g cap' .deferred=b at hent hro hkd hdf hfn;let a0:Act:=⟨cap'++qbb (D.gf.ntmps-cap'.size) undef,[]⟩;have hops:(#[D.orc]:Array Oper)[0]?=some D.orc:=rfl
 have hwant:∀y,Region.wanted D.orc y=true:=fun y=>by unfold Region.wanted;rw [hD.gorc]
 have hrun:(execOp a0.eval D.orc).run tb.P w= .ok .recover w:=by
  simp only [execOp,hD.horc,resolve,Sem.run_bind,Sem.run_pure,Result.andThen_ok,invoke,builtin]
 have s0:Steps tb.P (lone b (fr::cs) w) (lone (b.atR a0 (.inRegion #[D.orc] [0]::[.code D.c3])) (fr::cs) w):=by
  rw [hent];refine .head stepR_seq (.head stepR_region ?_);exact .refl _ _
 obtain⟨fr1,s1',hfr1⟩:∃fr1,Steps tb.P (lone (b.atR a0 (.inRegion #[D.orc] [0]::[.code D.c3])) (fr::cs) w) (lone (b.atR (a0.put D.orc.dst rv') [.code D.c3]) (fr1::cs) w)∧
  (fr.mode= .returning∧fr1=fr∨fr1={fr with mode:=.panicking [{v:=rv',recovered:=true}]}):=by
  rcases hmode with⟨hm,rfl⟩|hm
  ·refine⟨fr,.head (qa hro hops (hwant _) hrun ?_) (.one stepR_region_end),.inl ⟨hm,rfl⟩⟩;simp [tryRecover,Frame.atR,hkd,hm]
  ·refine⟨_,.head (oZ hro hops (hwant _) hrun ?_) (.one stepR_region_end),.inr rfl⟩;simp [tryRecover,Frame.atR,hkd,hm]
 have hs0:SR ι {t:=(T.bR .e 0 cap).set D.t rv,n:=D.gf.ntmps,d:=[],m:=A,ro:=none} b (a0.put D.orc.dst rv') w:=by
  refine⟨hr,?_,hro,?_⟩
  ·rw [hD.dorc];exact(TR.args ha hn).set hD.ht hrv
  ·rw [hD.dorc];exact hdf.symm
 obtain⟨ι1,w1,a1,k1,st1,ha1,hs1,hss1⟩:=hc ι b _ [] (fr1::cs) w hs0 hfree';obtain⟨todo,st2⟩:=vj (P:=tb.P) (a:=a1) (cs:=fr1::cs) (w:=w1) hro he ha1;obtain⟨w2,Dx,hrel2,hst2⟩:=np tb.P (b:=b) (t:=a1.tmps) (todo:=todo) (cs:=fr1::cs) h4 hs1.dr hs1.rel;obtain⟨vr,hres,-⟩:=lP ok hrel2 hs1.tr (fn:=D.gf) (vs:=[]) (by rw [hD.hres];rfl);obtain⟨e1,e2⟩:=tu (P:=tb.P) (cs:=cs) (w:=w2) (fr:={b.atR ⟨a1.tmps,b.defers⟩ todo with mode:=.returning}) (c:=fr1) (fn:=D.gf) rfl hdf hkd (by show tb.P.funcs[b.fn]?=_;rw [hfn];exact hg') hres;refine⟨ι1,w2,(((s0.trans s1').trans st1).trans st2).trans (Dx.trans ?_),hrel2,hss1.stp.trans hst2⟩;rcases hfr1 with⟨hm,rfl⟩|rfl
 ·have:({fr1 with mode:=.returning}:Frame)=fr1:=by rw [←hm]
  rw [this];exact .one (e1 hm)
 ·exact .one (e2 rv' rfl)
include ok hD in
theorem DZ (n:Nat):b7 tb.P D.f (il tb D n):=by
 intro args A v A' h;have hf':=ok.fn _ _ hD.hf;have hg':=ok.fn _ _ hD.hg;have hih:=jP ok n;unfold il at h;cases hnb:Zj args.length D.fn.ntmps with
 |false=>rw [hnb] at h;cases h
 |true=>
 rw [hnb,cond_true] at h;have hn:=ZP hnb;obtain⟨⟨e0,s0⟩,h0,h⟩:=R.ag h;cases e0 with
 |exit _=>cases h
 |ret=>cases h
 |kh _=>cases h
 |nrm=>
 obtain⟨⟨e1,s1⟩,h1,h⟩:=R.ag h;simp only at h;split at h
 case h_2=>cases h
 rename_i g' first cap hd1 hx
 cases hgg:Zr g' D.g with
 |false=>rw [hgg] at h;cases h
 |true=>
 rw [hgg,cond_true] at h;obtain rfl:=ZA hgg;obtain⟨⟨e2,s2⟩,h2,h⟩:=R.ag h;obtain⟨⟨rv,A1⟩,h3,h⟩:=R.ag h;obtain⟨A2,h4,h⟩:=R.ag h;obtain⟨vs,h5,h⟩:=R.ag h;simp only [R.ok.injEq,Zq] at h;obtain⟨rfl,rfl⟩:=h;rcases hih _ _ _ _ h0 with⟨v,he,_⟩|⟨hle0,c0⟩
 ·cases he
 rcases uH ok (Ii ok hih) (ops:= #[D.o1,D.od]) (i:=0) h1 with⟨v,s,he,_⟩|⟨s,he,hle1,c1⟩
 ·cases he
 cases he;have hnA2:A1.next≤A2.next:=(yZ ok hD h4).1
 have hrec:=(yZ ok hD h4).2;have hle2:s1.m.next≤A1.next∧A1.next=s2.m.next:=by
  rcases hih _ _ _ _ h2 with⟨v,rfl,hp⟩|hc
  ·simp only at h3;split at h3
   ·simp only [R.ok.injEq,Zq] at h3;rw [←h3.2];exact⟨hp.1,rfl⟩
   ·cases h3
  ·cases e2 with
   |kh v=>
    simp only at h3;split at h3
    ·simp only [R.ok.injEq,Zq] at h3;rw [←h3.2];exact⟨hc.1,rfl⟩
    ·cases h3
   |exit _=>cases h3
   |nrm=>
    obtain⟨A3,h6,h7⟩:=R.ag h3;simp only [R.ok.injEq,Zq] at h7;rw [←h7.2,j' h6];exact⟨hc.1,rfl⟩
   |ret=>
    obtain⟨A3,h6,h7⟩:=R.ag h3;simp only [R.ok.injEq,Zq] at h7;rw [←h7.2,j' h6];exact⟨hc.1,rfl⟩
 have hn0:A.next≤s0.m.next:=hle0
 refine⟨by omega,fun ι w args' hr ha hfree fr0 cs0=>?_⟩;have hent:=oh hf' hD.hb args' .normal;have hro:(Frame.enter tb.P D.f args' .normal).roundOf=none:=rfl;have hkd:(Frame.enter tb.P D.f args' .normal).kind= .normal:=rfl;have hdf:(Frame.enter tb.P D.f args' .normal).defers=[]:=rfl;have hfn:(Frame.enter tb.P D.f args' .normal).fn=D.f:=rfl;generalize Frame.enter tb.P D.f args' .normal=b at hent hro hkd hdf hfn;have hs:SR ι {t:=T.bR .e 0 args,n:=D.fn.ntmps,d:=[],m:=A,ro:=none} b ⟨args'++qbb (D.fn.ntmps-args'.size) undef,[]⟩ w:=
  ⟨hr,TR.args ha hn,hro,hdf.symm⟩
 obtain⟨ι0,w0,a0,k0,st0,ha0,hs0,hss0⟩:=c0 ι b _ [.code (.seq (.region D.id1 #[D.o1,D.od] false) D.c2)] (fr0::cs0) w hs (fun x h1 h2=>hfree x h1 (by omega))
 cases (show k0=_ from ha0);have st0':Steps tb.P (lone b (fr0::cs0) w) (lone (b.atR a0 (.inRegion #[D.o1,D.od] [0,1]::[.code D.c2])) (fr0::cs0) w0):=by
  rw [hent];exact(Steps.head stepR_seq st0).trans (.head stepR_seq (.one stepR_region))
 have hw1:∀y,Region.wanted D.o1 y=true:=fun y=>by unfold Region.wanted;rw [hD.go1]
 have hw2:∀y,Region.wanted D.od y=true:=fun y=>by unfold Region.wanted;rw [hD.god]
 have hF0:eM ι0 s0.m s1.m:=eM.right (fun x h1 h2=>hfree x h1 (by have:A1.next=s2.m.next:=hle2.2;omega)) hss0.stp;obtain⟨ι1,w1,a1,st1,hs1,hss1⟩:=c1 ι0 b a0 [.code D.c2] (fr0::cs0) w0 [1] hs0 hF0 (hw1 _) rfl;obtain⟨v',hv1,hv2⟩:=hs1.tr.2 _ _ hx;cases hv2 with
 |func _ hfirst hcap=>
 rename_i first' cap' hny;have hev:a1.eval (.tmp D.x)= .func (.func D.g) first' cap':=by
  simp only [Act.eval,qcO,hv1,qal]
 obtain⟨dt,hdt1,hdt2⟩:∃dt:Deferred,(execOp a1.eval D.od).run tb.P w1= .ok (.defer dt) w1∧(∃t c,dt.target= .fn t c)∧∀u:World,(invoke dt.target dt.args).run tb.P u= .ok (.enter D.g (first'++cap')) u:=by
  refine⟨{target:=.fn (.func D.g) cap',args:=first'++ #[]},?_,⟨_,_,rfl⟩,fun u=>?_⟩
  ·have e0:(#[]:Array Operand).map a1.eval= #[]:=by simp
   simp only [execOp,hD.hod,resolve,hev,Deferred.ofValue,Sem.run_bind,Sem.run_pure,Result.andThen_ok,e0]
  ·simp only [invoke,callFunc,Sem.run_bind,run_program,Result.andThen_ok,hg',hD.hng,hD.hgb,Option.isNone_some,Zz,if_false,Sem.run_pure,Array.append_empty]
 have hd0:a1.defers=[]:=by
  have:=hs1.dr;rw [hd1,hdf] at this;exact this
 let a2:Act:={a1 with defers:=dt::a1.defers};let b2:Frame:={b with defers:=[dt]};have st2:Steps tb.P (lone (b.atR a1 (.inRegion #[D.o1,D.od] [1]::[.code D.c2])) (fr0::cs0) w1) (lone (b2.atR a2 [.code D.c2]) (fr0::cs0) w1):=
  .head (zz hro rfl (hw2 _) hdt1 hD.dod) (.one stepR_region_end)
 have hsb:SR ι1 s1 b2 a2 w1:=⟨hs1.rel,hs1.tr,hs1.ro,by
  rw [hd1];show dt::a1.defers=[dt];rw [hd0]⟩
 have hStp1:eE ι A w ι1 s1.m w1:=hss0.stp.trans hss1.stp;have hF1:eM ι1 s1.m s2.m:=eM.right (fun x h1 h2=>hfree x h1 (by have:A1.next=s2.m.next:=hle2.2;omega)) hStp1;have hpre:=(st0'.trans st1).trans st2;have tail:∀(ι2:dg) (w2:World) (a3:Act) (k3:List Item) (md:FrameMode) (rv':Value),Rel ι2 A1 w2→TR ι2 s2.n s2.t a3.tmps→eE ι1 s1.m w1 ι2 A1 w2→eN ι1 ι2→VR ι2 rv rv'→
  (md= .returning∧rv'= .nilIface∨md= .panicking [{v:=rv',recovered:=false}])→
  ∃ι' w' v',Steps tb.P (lone {b2.atR {a3 with defers:=[dt]} k3 with mode:=md} (fr0::cs0) w2) (lone (fr0.finish v') cs0 w')∧VR ι' (oneOf vs) v'∧Rel ι' A2 w'∧eE ι A w ι' A2 w':=by
  intro ι2 w2 a3 k3 md rv' hrel htr hst hle hrv hmd;have hStp2:eE ι A w ι2 A1 w2:=hStp1.trans hst;have hF2:eM ι2 A1 A2:=eM.right hfree hStp2;have hcaps:dG ι2 (first.toList++cap.toList) (first'++cap').toList:=by
   have h1:=dG.mono hle hfirst;have h2:=dG.mono hle hcap;rw [Array.toList_append];generalize first.toList=l1 at h1
   generalize first'.toList=l2 at h1;clear hfirst
   induction l1 generalizing l2 with
   |nil=>cases h1;exact h2
   |cons x l1 ih=>
    cases h1 with
    |cons hx hl=>exact .cons hx (ih _ hl)
  obtain⟨ι3,w3,Dx,hrel3,hst3⟩:=hrec ι2 w2 (first'++cap') rv' {b2.atR {a3 with defers:=[]} k3 with mode:=md} (fr0::cs0) hrel hcaps hrv hF2 hmd;have stc:step tb.P (lone {b2.atR {a3 with defers:=[dt]} k3 with mode:=md} (fr0::cs0) w2)= .next (lone (Frame.enter tb.P D.g (first'++cap') .deferred) ({b2.atR {a3 with defers:=[]} k3 with mode:=md}::fr0::cs0) w2):=
   tq rfl (by
    rcases hmd with⟨rfl,_⟩|rfl
    ·exact .inl rfl
    ·exact .inr ⟨_,rfl⟩) hdt2.1 (hdt2.2 w2)
  have hle3:eN ι2 ι3:=hst3.le hF2;obtain⟨v',e1,hv⟩:=lP ok hrel3 (htr.mono hle3) (fn:=D.fn) h5;have hlv:Frame.leaving tb.P {b2.atR {a3 with defers:=[]} k3 with mode:=.returning} w3 (.returned v'):=⟨rfl,rfl,hkd,D.fn,by show tb.P.funcs[b.fn]?=_;rw [hfn];exact hf',e1⟩;exact⟨ι3,w3,v',.head stc (Dx.trans (.one (step_leave_returned hlv))),hv,hrel3,hStp2.trans hst3⟩
 rcases hih _ _ _ _ h2 with⟨v,rfl,hle,hp⟩|⟨hle,hc⟩
 ·simp only at h3;split at h3
  case h_2=>cases h3
  rename_i hd2;simp only [R.ok.injEq,Zq] at h3;obtain⟨rfl,rfl⟩:=h3;obtain⟨ι2,w2,a3,k3,v3,Dx,hv3,hs3,hss3⟩:=hp ι1 b2 a2 [] (fr0::cs0) w1 hsb hF1;have hd3:a3.defers=[dt]:=by
   have:=hs3.dr;rw [hd2] at this;exact this
  obtain⟨ι',w',v',st4,r1,r2,r3⟩:=tail ι2 w2 a3 k3 _ v3 hs3.rel hs3.tr hss3.stp (hss3.stp.le hF1) hv3 (.inr rfl);have ea:({a3 with defers:=[dt]}:Act)=a3:=by rw [←hd3]
  rw [ea] at st4;exact⟨ι',w',v',(hpre.trans Dx).trans st4,r1,r2,r3⟩
 ·have he:(e2= .nrm∨e2= .ret)∧fc s2.d s2.m= .ok A1∧rv= .nilIface:=by
   cases e2 with
   |kh v=>
    obtain⟨ι2,w2,a3,k3,_,ha,_⟩:=hc ι1 b2 a2 [] (fr0::cs0) w1 hsb hF1;exact ha.elim
   |exit _=>cases h3
   |nrm=>
    obtain⟨A3,h6,h7⟩:=R.ag h3;simp only [R.ok.injEq,Zq] at h7;exact⟨.inl rfl,by rw [h6,h7.2],h7.1.symm⟩
   |ret=>
    obtain⟨A3,h6,h7⟩:=R.ag h3;simp only [R.ok.injEq,Zq] at h7;exact⟨.inr rfl,by rw [h6,h7.2],h7.1.symm⟩
  obtain⟨he,h6,rfl⟩:=he;obtain⟨ι2,w2,a3,k3,Dx,ha3,hs3,hss3⟩:=hc ι1 b2 a2 [] (fr0::cs0) w1 hsb hF1;obtain⟨todo,st4⟩:=vj (P:=tb.P) (b:=b2) (a:=a3) (cs:=fr0::cs0) (w:=w2) hro he ha3;obtain⟨w3,Xj,hrel3,hst3⟩:=np tb.P (b:=b2) (t:=a3.tmps) (todo:=todo) (cs:=fr0::cs0) h6 hs3.dr hs3.rel;obtain⟨ι',w',v',st6,r1,r2,r3⟩:=tail ι2 w3 a3 todo _ .nilIface hrel3 hs3.tr (hss3.stp.trans hst3) (hss3.stp.le hF1) .nilIface (.inl ⟨rfl,rfl⟩);exact⟨ι',w',v',(((hpre.trans Dx).trans st4).trans Xj).trans st6,r1,r2,r3⟩
end
section
variable {tb:bL}
def W8 (x:Value):R Value:=match x with
 | .pointer (some a)=>.ok (.pointer (some a))
 | .iface a b=>.ok (.iface a b)
 | .map a=>.ok (.map a)
 | .func (.func f) a b=>.ok (.func (.func f) a b)
 | .func (.yield f) a b=>.ok (.func (.yield f) a b)
 |_=>.no 213
theorem aX (a:Addr):W8 (.pointer (some a))= .ok (.pointer (some a)):=rfl
variable {dst:Option Tmp}
theorem aA {ih:Code→St→R (Ex×St)} {ty:TypeId} {pos:String} {after:Array Edge} {g:Option (Nat×Bool)} {s:St} {k:St→R (Ex×St)} (x:Operand):dK tb ih {dst,op:=.nilCheck x,type:=ty,pos,after,guard:=g} s k=
 (ev s.t x).bind fun a=>(W8 a).bind fun v=>bQ s dst v k:=by
 rw [i_ (hc:=rfl) (hi:=rfl)];simp only [uM,R.a7];rfl
theorem Ry {a b:Int} (h1:-9223372036854775808≤a+b) (h2:a+b≤9223372036854775807):aK .add .i64 a b= .ok (.int .i64 (a+b)):=by
 show R.ok (Value.int .i64 (dp .i64 (a+b)))=_;rw [eL,k_ h1 h2]
theorem pQ (m:Nat):∀(vs:List Value) (i:Nat) (c:T Value),(∀v∈vs,aH v=true)→(∀j,j<vs.length→(∃y,c.get (i+j)=some y)∨i+j<m)→eG m 0 vs i c= .ok (c.bR i vs)
 | [],_,_,_,_=>rfl
 |v::vs,i,c,h1,h2=>by
  unfold eG;have hb:(aH v&&Zj 0 i)=true:=by rw [h1 v (Zy ..)];simp
  have rest:eG m 0 vs (qb8 i) (c.set i v)= .ok ((c.set i v).bR (qb8 i) vs):=pQ m vs (i+1) (c.set i v) (fun w hw=>h1 w (Zx _ hw)) fun j hj=>by
   rw [T.aD];by_cases e:i+1+j=i
   ·omega
   ·rw [if_neg e,show i+1+j=i+(j+1) by omega];exact h2 (j+1) (by simp;omega)
  rw [hb,cond_true];rcases h2 0 (by simp) with⟨y,hy⟩|hy
  ·rw [Z8] at hy;rw [hy];exact rest
  ·rw [Z8] at hy;have hlt:Zt i m=true:=by rw [ZB];exact hy
   cases hc:c.get i with
   |some _=>exact rest
   |none=>simp only [hlt,cond_true];exact rest
end
section
variable {tb:bL}
variable {A:Mem} {b o:Nat} {vs:List Value}
theorem dj.put {e:TypeId} {k:Kd} {l:List Value} (h:dj A e b k l) (h1:∀v∈vs,aH v=true) (h2:o+vs.length≤l.length) (h0:vs≠ []):
 ∃A',c_ A ⟨b,o,none⟩ vs= .ok A'∧A'.next=A.next∧(∀x,x≠b→A'.get x=A.get x)∧∀l':List Value,l'.length=l.length→(∀j,j<l.length→l'[j]?=if o≤j∧j<o+vs.length then vs[j-o]? else l[j]?)→dj A' e b k l':=by
 obtain⟨c,h3,h4⟩:=h;have hst:eG (Bp k) 0 vs o c= .ok (c.bR o vs):=pQ _ vs o c h1 fun j hj=>.inl (by
  rw [h4 (o+j) (by omega),Zi (show o+j<l.length by omega)];exact⟨_,rfl⟩)
 refine⟨A.set b (.cells e k 0 (c.bR o vs)),?_,aO _ _ _,fun x hx=>by rw [aC,if_neg hx],fun l' hl hj=>⟨_,by rw [aC,if_pos rfl],fun i hi=>?_⟩⟩
 ·cases vs with
  |nil=>exact absurd rfl h0
  |cons v vs=>
   unfold c_;simp only [h3,hst,R.aw]
 ·rw [T.eI,hj i (by omega)];split
  ·rfl
  ·exact h4 i (by omega)
variable {n i:Nat}
theorem sq {ls:List (List Value)} {l:List Value} (h:∀x∈ls,x.length=n) (hl:l.length=n) (hi:i<ls.length) (j:Nat) (hj:j<ls.flatten.length):
 ((ls.set i l).flatten)[j]?=if i*n≤j∧j<i*n+n then l[j-i*n]? else ls.flatten[j]?:=by
 have h':∀x∈ls.set i l,x.length=n:=fun x hx=>by
  rcases qbc hx with hx|rfl
  ·exact h x hx
  ·exact hl
 rw [dh h] at hj;have hn:0<n:=Nat.pos_of_ne_zero fun e=>by rw [e] at hj;omega
 have hq:j/n<ls.length:=by rw [qcK hn];exact hj
 have hm:j % n<n:=qav _ hn;have e:j=j/n*n+j % n:=by rw [Nat.mul_comm,Nat.div_add_mod]
 have hx:ls[j/n]?=some ls[j/n]:=Zi hq;by_cases hji:j/n=i
 ·have hx':(ls.set i l)[j/n]?=some l:=by rw [hji,qaj,if_pos rfl,if_pos hi]
  rw [hji] at e;rw [if_pos ⟨by omega,by omega⟩];have:=e9 h' (i:=i) (j:=j % n) (by rw [←hji];rw [hji] at hx'⊢;exact hx') hm;rw [←e] at this;rw [this];congr 1;omega
 ·have hx':(ls.set i l)[j/n]?=some ls[j/n]:=by rw [qaj,if_neg (fun h=>hji h.symm),hx]
  have g1:=e9 h' hx' hm;have g2:=e9 h hx hm;rw [←e] at g1 g2;rw [g1,g2,if_neg];rintro⟨h3,h4⟩;apply hji;have h5:i≤j/n:=(Nat.le_div_iff_mul_le hn).2 h3;have h6:j/n<i+1:=(qcK hn).2 (by rw [qbs,qcC];exact h4);omega
theorem aq.store {e t:TypeId} {ls:List (List Value)} {l:List Value} {x:Value} (h:aq A e n b ls x) (hs:aV tb t= .ok n) (hn:0<n) (hi:i<ls.length) (hl:l.length=n) (h1:∀v∈l,aH v=true):
 ∃A',aT tb A t (.pointer (some ⟨b,i*n,none⟩)) (.agg ⟨l⟩)= .ok A'∧aq A' e n b (ls.set i l) x∧A'.next=A.next∧∀y,y≠b→A'.get y=A.get y:=by
 rcases h with⟨rfl,rfl⟩|⟨k,c,rfl,h2,h3,h4,h5⟩
 ·simp at hi
 ·have hlen:i*n+l.length≤ls.flatten.length:=by
   rw [dh h4,hl];have:=qce n (show i+1≤ls.length from hi);rw [qbs,qcC] at this;omega
  have h4':∀x∈ls.set i l,x.length=n:=fun x hx=>by
   rcases qbc hx with hx|rfl
   ·exact h4 x hx
   ·exact hl
  obtain⟨A',g1,g2,g3,g4⟩:=h3.put h1 hlen (fun e=>by rw [e] at hl;simp at hl;omega);refine⟨A',?_,.inr ⟨k,c,by rw [ZR],by omega,g4 _ (by rw [dh h4',dh h4,ZR]) fun j hj=>by rw [sq h4 hl hi j hj,hl],h4',by rw [ZR];exact h5⟩,g2,g3⟩;unfold aT;have hc:(Value.agg ⟨l⟩).cells.toList=l:=rfl;simp only [hs,R.aw,hc,hl,qdA,cond_true];exact g1
variable {j:Nat} {v:Value}
theorem aq.field {e t:TypeId} {ls:List (List Value)} {l:List Value} {x:Value} (h:aq A e n b ls x) (hs:aV tb t= .ok 1) (hi:ls[i]?=some l) (hj:j<n) (hv:v.cells.toList=[v]) (h1:aH v=true):
 ∃A',aT tb A t (.pointer (some ⟨b,i*n+j,none⟩)) v= .ok A'∧aq A' e n b (ls.set i (l.set j v)) x∧A'.next=A.next∧∀y,y≠b→A'.get y=A.get y:=by
 have hil:i<ls.length:=(Zl.1 hi).1;rcases h with⟨rfl,rfl⟩|⟨k,c,rfl,h2,h3,h4,h5⟩
 ·simp at hil
 ·have hl:l.length=n:=h4 l (ZM hi);have hlen:=IC h4 hil hj;have h4':∀x∈ls.set i (l.set j v),x.length=n:=fun x hx=>by
   rcases qbc hx with hx|rfl
   ·exact h4 x hx
   ·rw [ZR];exact hl
  obtain⟨A',g1,g2,g3,g4⟩:=h3.put (o:=i*n+j) (vs:=[v]) (fun w hw=>by rw [Z9.1 hw];exact h1) (by rw [qae];omega) (by simp);refine⟨A',?_,.inr ⟨k,c,by rw [ZR],by omega,g4 _ (by rw [dh h4',dh h4,ZR]) fun m hm=>?_,h4',by rw [ZR];exact h5⟩,g2,g3⟩
  ·unfold aT;simp only [hs,R.aw,hv,qae,qdA,cond_true];exact g1
  ·rw [sq h4 (by rw [ZR];exact hl) hil m hm,qae];by_cases hin:i*n≤m∧m<i*n+n
   ·rw [if_pos hin,qaj];by_cases hmj:j=m-i*n
    ·rw [if_pos hmj,if_pos (by omega),if_pos ⟨by omega,by omega⟩];have:m-(i*n+j)=0:=by omega
     rw [this];rfl
    ·rw [if_neg hmj,if_neg (by omega)];have:=e9 h4 hi (j:=m-i*n) (by omega);rw [show i*n+(m-i*n)=m by omega] at this;exact this.symm
   ·rw [if_neg hin,if_neg (by omega)]
end
theorem Td (t:T Value):pC t []= .ok []:=rfl
theorem Tc (t:T Value) (x:Operand) (xs:List Operand):pC t (x::xs)=(ev t x).bind fun v=>(pC t xs).bind fun vs=>.ok (v::vs):=rfl
theorem S9 (t:T Value):D_ t none= .ok none:=rfl
theorem S_ (t:T Value) (x:Operand):D_ t (some x)=(ev t x).bind fun v=>.ok (some v):=rfl
theorem Tb (t:T Value):GD t []= .ok []:=rfl
theorem Ta (t:T Value) (i:Nat) (x:Operand) (xs:List (Nat×Operand)):GD t ((i,x)::xs)=(ev t x).bind fun v=>(GD t xs).bind fun vs=>.ok ((i,v)::vs):=rfl
theorem OE (s:St) (dst:Option Tmp) (k:St→R (Ex×St)) (v:Value) (A:Mem):OC s dst k (.val v A)=bQ {s with m:=A} dst v k:=rfl
theorem OD (s:St) (dst:Option Tmp) (k:St→R (Ex×St)) (v:Value) (A:Mem):OC s dst k (.kh v A)= .ok (.kh v,{s with m:=A}):=rfl
theorem OA (tb:bL) (t:T Value) (g:Nat→Option Ob):fj tb t g []= .ok []:=rfl
theorem OB (tb:bL) (t:T Value) (g:Nat→Option Ob) (i:Nat) (rs:List ResultVar):fj tb t g (.tmp i::rs)=(ev t (.tmp i)).bind fun v=>(fj tb t g rs).bind fun vs=>.ok (v::vs):=rfl
theorem Oz (tb:bL) (t:T Value) (g:Nat→Option Ob) (i:Nat) (ty:TypeId) (rs:List ResultVar):fj tb t g (.cell i ty::rs)=(ev t (.tmp i)).bind fun a=>(ai tb g ty a).bind fun v=>(fj tb t g rs).bind fun vs=>.ok (v::vs):=rfl
theorem I':oneOf []= .tuple ⟨[]⟩:=rfl
theorem Ja (v:Value):oneOf [v]=v:=rfl
theorem I_ (a b:Value) (l:List Value):oneOf (a::b::l)= .tuple ⟨a::b::l⟩:=rfl
theorem JM (A:Mem):fc [] A= .ok A:=rfl
theorem JL (b:Nat) (bs:List Nat) (A:Mem):fc (b::bs) A=match A.get b with|some .defd=>fc bs (A.set b .dead)|_=>.no 240:=rfl
theorem Jf (t:T Value) (a b:Operand):Jd t (.bool true) a b=ev t a:=rfl
theorem Je (t:T Value) (a b:Operand):Jd t (.bool false) a b=ev t b:=rfl
theorem yb (vs:Array Value) (i:Nat):ya (.tuple vs) i=match vs.toList[i]? with|some v=>.ok v|none=>.no 211:=rfl
theorem JP:cQ= .tuple ⟨[]⟩:=rfl
theorem Aq:type_of% (
 Zh @Td<|
 Zh @Tc<|
 Zh @S9<|
 Zh @S_<|
 Zh @Tb<|
 Zh @Ta<|
 Zh @OE<|
 Zh @OD<|
 Zh @OA<|
 Zh @OB<|
 Zh @Oz<|
 Zh @I'<|
 Zh @Ja<|
 Zh @I_<|
 Zh @JM<|
 Zh @JL<|
 Zh @Jf<|
 Zh @Je<|
 Zh @yb<|
 Zh @cond_true.{1}<|
 Zh @cond_false.{1}<|
 Zh @T.bu<|
 Zh @T.cC<|
 Zh @oA<|
 Zh @ir<|
 Zh @na<|
 Zh @ou<|
 Zh @lZ<|
 Zh @ug<|
 Zh @x_<|
 Zh @uf<|
 Zh @mW<|
 Zh @oT<|
 Zh @ri<|
 Zh @yO<|
 Zh @qP<|
 Zh @CP<|
 Zh @CU<|
 Zh @CS<|
 Zh @G_<|
 Zh @uF<|
 Zh @lA<|
 Zh @lv<|
 Zh @uE<|
 Zh @uD<|
 Zh @uG<|
 Zh @oR<|
 Zh @yQ<|
 Zh @yN<|
 Zh @uC<|
 Zh @CR<|
 Zh @jX<|
 Zh @lJ<|
 Zh @uI<|
 Zh @yL<|
 Zh @CT<|
 Zh @qQ<|
 Zh @oQ<|
 Zh @yK<|
 Zh @im<|
 Zh @eH<|
 Zh @GA<|
 Zh @Cq<|
 Zh @GC<|
 Zh @R.aw<|
 Zh @uO<|
 Zh @uN<|
 Zh @T.aD<|
 Zh @T.jT<|
 Zh @xA<|
 Zh @uK<|
 Zh @qZ<|
 Zh @re<|
 Zh @Hb<|
 Zh @Ha<|
 Zh @CV<|
 Zh @qR<|
 Zh @rb<|
 Zh @uJ<|
 Zh @uL<|
 Zh @qX<|
 Zh @mM<|
 Zh @n7<|
 Zh @qW<|
 Zh @qY<|
 Zh @qT<|
 Zh @n6<|
 Zh @mF<|
 Zh @pT<|
 Zh @G6<|
 Zh @xi<|
 Zh @xS<|
 Zh @qau<|
 Zh @qaS<|
 Zh @if_true.{1}<|
 Zh @if_false.{1}<|
 Zh @ne_eq.{1}<|
 Zh @not_true_eq_false<|
 Zh @not_false_eq_true<|
 Zh @decide_true<|
 Zh @decide_false<|
 Zh @Zz<|
 Zh @qaI<|
 Zh @qa4<|
 Zh @Dm<|
 Zh @zH<|
 Zh @zJ<|
 Zh @uY<|
 Zh @uZ<|
 Zh @uX<|
 Zh @zF<|
 Zh @u6<|
 Zh @rn<|
 Zh @rp<|
 Zh @qal.{0}<|
 Zh @FX<|
 Zh @tN<|
 Zh @rj<|
 Zh @uQ<|
 Zh @ue<|
 Zh @q_<|
 Zh @ra<|
 Zh @qU<|
 Zh @xC<|
 Zh @tw<|
 Zh @Dl<|
 Zh @Dk<|
 Zh @lX<|
 Zh @dc<|
 Zh @aj<|
 Zh @DN<|
 Zh @lU<|
 Zh @pK<|
 Zh @bne_self_eq_false.{0}<|
 Zh @beq_self_eq_true.{0}<|
 Zh @eq_self.{1}<|
 Zh @tY<|
 Zh @cF<|
 Zh @builtin_append<|
 Zh @dI<|
 Zh @bU<|
 Zh @aQ<|
 Zh @px<|
 Zh @aM<|
 Zh @Be<|
 Zh @xO<|
 Zh @vq<|
 Zh @fi<|
 Zh @bT<|
 Zh @bN<|
 Zh @bj<|
 Zh @bA<|
 Zh @qac.{0}<|
 Zh @Z5.{0}<|
 Zh @qap.{0}<|
 @PI):=
 Zh @Td<|
 Zh @Tc<|
 Zh @S9<|
 Zh @S_<|
 Zh @Tb<|
 Zh @Ta<|
 Zh @OE<|
 Zh @OD<|
 Zh @OA<|
 Zh @OB<|
 Zh @Oz<|
 Zh @I'<|
 Zh @Ja<|
 Zh @I_<|
 Zh @JM<|
 Zh @JL<|
 Zh @Jf<|
 Zh @Je<|
 Zh @yb<|
 Zh @cond_true.{1}<|
 Zh @cond_false.{1}<|
 Zh @T.bu<|
 Zh @T.cC<|
 Zh @oA<|
 Zh @ir<|
 Zh @na<|
 Zh @ou<|
 Zh @lZ<|
 Zh @ug<|
 Zh @x_<|
 Zh @uf<|
 Zh @mW<|
 Zh @oT<|
 Zh @ri<|
 Zh @yO<|
 Zh @qP<|
 Zh @CP<|
 Zh @CU<|
 Zh @CS<|
 Zh @G_<|
 Zh @uF<|
 Zh @lA<|
 Zh @lv<|
 Zh @uE<|
 Zh @uD<|
 Zh @uG<|
 Zh @oR<|
 Zh @yQ<|
 Zh @yN<|
 Zh @uC<|
 Zh @CR<|
 Zh @jX<|
 Zh @lJ<|
 Zh @uI<|
 Zh @yL<|
 Zh @CT<|
 Zh @qQ<|
 Zh @oQ<|
 Zh @yK<|
 Zh @im<|
 Zh @eH<|
 Zh @GA<|
 Zh @Cq<|
 Zh @GC<|
 Zh @R.aw<|
 Zh @uO<|
 Zh @uN<|
 Zh @T.aD<|
 Zh @T.jT<|
 Zh @xA<|
 Zh @uK<|
 Zh @qZ<|
 Zh @re<|
 Zh @Hb<|
 Zh @Ha<|
 Zh @CV<|
 Zh @qR<|
 Zh @rb<|
 Zh @uJ<|
 Zh @uL<|
 Zh @qX<|
 Zh @mM<|
 Zh @n7<|
 Zh @qW<|
 Zh @qY<|
 Zh @qT<|
 Zh @n6<|
 Zh @mF<|
 Zh @pT<|
 Zh @G6<|
 Zh @xi<|
 Zh @xS<|
 Zh @qau<|
 Zh @qaS<|
 Zh @if_true.{1}<|
 Zh @if_false.{1}<|
 Zh @ne_eq.{1}<|
 Zh @not_true_eq_false<|
 Zh @not_false_eq_true<|
 Zh @decide_true<|
 Zh @decide_false<|
 Zh @Zz<|
 Zh @qaI<|
 Zh @qa4<|
 Zh @Dm<|
 Zh @zH<|
 Zh @zJ<|
 Zh @uY<|
 Zh @uZ<|
 Zh @uX<|
 Zh @zF<|
 Zh @u6<|
 Zh @rn<|
 Zh @rp<|
 Zh @qal.{0}<|
 Zh @FX<|
 Zh @tN<|
 Zh @rj<|
 Zh @uQ<|
 Zh @ue<|
 Zh @q_<|
 Zh @ra<|
 Zh @qU<|
 Zh @xC<|
 Zh @tw<|
 Zh @Dl<|
 Zh @Dk<|
 Zh @lX<|
 Zh @dc<|
 Zh @aj<|
 Zh @DN<|
 Zh @lU<|
 Zh @pK<|
 Zh @bne_self_eq_false.{0}<|
 Zh @beq_self_eq_true.{0}<|
 Zh @eq_self.{1}<|
 Zh @tY<|
 Zh @cF<|
 Zh @builtin_append<|
 Zh @dI<|
 Zh @bU<|
 Zh @aQ<|
 Zh @px<|
 Zh @aM<|
 Zh @Be<|
 Zh @xO<|
 Zh @vq<|
 Zh @fi<|
 Zh @bT<|
 Zh @bN<|
 Zh @bj<|
 Zh @bA<|
 Zh @qac.{0}<|
 Zh @Z5.{0}<|
 Zh @qap.{0}<|
 @PI
theorem Fq:type_of% (
 Zh @E4<|
 Zh @OK<|
 Zh @Jn<|
 Zh @Jm<|
 Zh @OJ<|
 Zh @E7<|
 Zh @Jp<|
 Zh @E6<|
 Zh @E5<|
 Zh @Jo<|
 Zh @DB<|
 Zh @Av<|
 Zh @Bw<|
 Zh @Fp<|
 Zh @Fs<|
 Zh @Jw<|
 Zh @Ft<|
 Zh @Fu<|
 Zh @Jy<|
 Zh @wc<|
 Zh @sZ<|
 Zh @we<|
 Zh @s8<|
 Zh @wg<|
 Zh @y_<|
 Zh @EX<|
 Zh @yr<|
 Zh @AA<|
 Zh @qc9.{0,0}<|
 Zh @qbu<|
 Zh @qa2<|
 @Bool.and_self):=
 Zh @E4<|
 Zh @OK<|
 Zh @Jn<|
 Zh @Jm<|
 Zh @OJ<|
 Zh @E7<|
 Zh @Jp<|
 Zh @E6<|
 Zh @E5<|
 Zh @Jo<|
 Zh @DB<|
 Zh @Av<|
 Zh @Bw<|
 Zh @Fp<|
 Zh @Fs<|
 Zh @Jw<|
 Zh @Ft<|
 Zh @Fu<|
 Zh @Jy<|
 Zh @wc<|
 Zh @sZ<|
 Zh @we<|
 Zh @s8<|
 Zh @wg<|
 Zh @y_<|
 Zh @EX<|
 Zh @yr<|
 Zh @AA<|
 Zh @qc9.{0,0}<|
 Zh @qbu<|
 Zh @qa2<|
 @Bool.and_self
theorem Wq:type_of% (
 Zh @pd<|
 Zh @rG<|
 Zh @qI<|
 Zh @qH<|
 Zh @T.aD<|
 Zh @T.jT<|
 Zh @if_true.{1}<|
 Zh @if_false.{1}<|
 Zh @rH<|
 Zh @rI<|
 Zh @cond_true.{1}<|
 Zh @cond_false.{1}<|
 Zh @qaI<|
 Zh @qa4<|
 Zh @JP<|
 @List.toList_toArray.{0}):=
 Zh @pd<|
 Zh @rG<|
 Zh @qI<|
 Zh @qH<|
 Zh @T.aD<|
 Zh @T.jT<|
 Zh @if_true.{1}<|
 Zh @if_false.{1}<|
 Zh @rH<|
 Zh @rI<|
 Zh @cond_true.{1}<|
 Zh @cond_false.{1}<|
 Zh @qaI<|
 Zh @qa4<|
 Zh @JP<|
 @List.toList_toArray.{0}
abbrev pw (b o:Nat):Value:=.pointer (some ⟨b,o,none⟩)
section
variable {tb:bL}
theorem Sq:type_of% (Zh @H4<|Zh @Mg<|Zh @T.aD<|Zh @T.bu<|Zh @T.cC<|Zh @if_true.{1}<|Zh @if_false.{1}<|Zh @and_true<| @true_and):=Zh @H4<|Zh @Mg<|Zh @T.aD<|Zh @T.bu<|Zh @T.cC<|Zh @if_true.{1}<|Zh @if_false.{1}<|Zh @and_true<| @true_and
theorem W.q {a b:Code} {s s':St} {K:Ex→St→Prop} (h:∀M,exec tb (M+20) a s= .ok (.nrm,s')) (k:W tb b s' K):W tb (.seq a b) s K:=W.seq (W.run 20 h k)
theorem W.qG {a b:Code} {s s':St} {K:Ex→St→Prop} (g:Nat) (h:∀M,g≤M→exec tb (M+20) a s= .ok (.nrm,s')) (k:W tb b s' K):W tb (.seq a b) s K:=W.seq (W.bf g 20 h k)
end
abbrev J0:=List (List Value×Value)
def zk (a b:List Value):Bool:=Zr a.length b.length&&(a.zip b).all fun p=>bP 100 p.1 p.2
theorem Fm:∀{a b:List Value},zk a b=true→a=b
 | [],[],_=>rfl
 | [],_::_,h=>by cases h
 |_::_,[],h=>by cases h
 |x::a,y::b,h=>by
  unfold zk at h;rw [ZF] at h;obtain⟨h1,h2⟩:=h;rw [List.zip_cons_cons,List.all_cons,ZF] at h2;have h3:a.length=b.length:=by have:=ZA h1;simpa using this
  have h4:zk a b=true:=by unfold zk;rw [ZF];exact⟨by rw [qbd];exact h3,h2.2⟩
  rw [j7 100 x y h2.1,Fm h4]
def qn:J0→List Value→Option Value
 | [],_=>none
 |p::l,args=>bif zk p.1 args then some p.2 else qn l args
theorem A9:∀{l:J0} {args:List Value} {v:Value},qn l args=some v→(args,v)∈l
 | [],_,_,h=>by cases h
 |p::l,args,v,h=>by
  have h':(bif zk p.1 args then some p.2 else qn l args)=some v:=h;cases hs:zk p.1 args with
  |true=>
   rw [hs,cond_true] at h';cases h';rw [←Fm hs];exact Zy ..
  |false=>
   rw [hs,cond_false] at h';exact Zx _ (A9 h')
def isVal (r:R FM) (v:Value):Bool:=
 match r with
 | .ok (.val u _)=>bP 100 u v
 |_=>false
def I5 (tb:bL) (n:Nat) (f:FuncId) (l:J0):Bool:=l.all fun p=>p.1.all (flat 9)&&flat 9 p.2&&isVal (call tb n f p.1 ee) p.2
variable {tb:bL} {f:FuncId} {fn:Func} {n:Nat}
theorem Rr (ok:cc tb) {c:Code} {l:J0} (hf:tb.fn.get f=some fn) (hb:fn.body=some c) (h:I5 tb n f l=true):cc (tb.pY f (aJ (qn l))):=by
 refine bY ok (dN ok hf hb fun args v hv=>?_);have h1:=qat.1 h _ (A9 hv);simp only [ZF] at h1;obtain⟨⟨h2,h3⟩,h4⟩:=h1;refine⟨fun x hx=>qat.1 h2 x hx,h3,n,?_⟩;unfold isVal at h4;split at h4
 ·rename_i u A e;rw [←j7 _ _ _ h4];exact⟨A,e⟩
 ·cases h4
end Go.Am
namespace Go.Proofs.YtggndfefpbmaeaaGreatDoor.sto
open Go.Am
noncomputable def exts:T Nat:=((((T.e.set 156 4).set 211 5).set 223 1).set 224 3)
theorem Um:SI 4 Tryz.f156:=⟨by kernel_rfl,by kernel_rfl,by kernel_rfl,by show Extern.find Tryz.f156=some Extern.MapsClone.clone;kernel_rfl⟩
theorem Un:SI 5 Tryz.f211:=⟨by kernel_rfl,by kernel_rfl,by kernel_rfl,by show Extern.find Tryz.f211=(Extern.MathBitsCarry.rows[0]?).map (·.2);kernel_rfl⟩
theorem Uo:SI 1 Tryz.f223:=⟨by kernel_rfl,by kernel_rfl,by kernel_rfl,by show Extern.find Tryz.f223=some Extern.AbiNoEscape.same;kernel_rfl⟩
theorem Up:SI 3 Tryz.f224:=⟨by kernel_rfl,by kernel_rfl,by kernel_rfl,by show Extern.find Tryz.f224=some (Extern.BytealgMakeNoZero.makeNoZero Tryz.f224.params Tryz.f224.resultTypes);kernel_rfl⟩
theorem Q6:∀f k fn,exts.get f=some k→qbN.prog.funcs[f]?=some fn→SI k fn:=by
 intro f k fn h hf;unfold exts at h;simp only [T.aD,T.jT] at h;split at h
 ·rename_i e;subst e;cases h;cases Z_ (hf.symm.trans Tryz.func224);exact Up
 split at h
 ·rename_i e;subst e;cases h;cases Z_ (hf.symm.trans Tryz.func223);exact Uo
 split at h
 ·rename_i e;subst e;cases h;cases Z_ (hf.symm.trans Tryz.func211);exact Un
 split at h
 ·rename_i e;subst e;cases h;cases Z_ (hf.symm.trans Tryz.func156);exact Um
 cases h
noncomputable def b6:bL:=PA qbN.prog exts
theorem eX:cc b6:=FB qbN _ Q6
variable {k:Nat} {fn:Func}
theorem bB (h:Z6.funcs[k]?=some fn):b6.fn.get k=some fn:=by
 show(T.ofList qbN.prog.funcs.toList).get k=_;rw [T.iy,ZK];exact h
section
section
variable {tb:bL} {ih:Code→St→R (Ex×St)}
variable (dst:Option Tmp) (ty:TypeId) (pos:String) (after:Array Edge) (g:Option (Nat×Bool)) (s:St) (k:St→R (Ex×St))
theorem gP (t:TypeId) (r:Option Operand):dK tb ih {dst,op:=.makeMap t r,type:=ty,pos,after,guard:=g} s k=
 (D_ s.t r).bind fun r=>(fx tb t r).bind fun(ob,way)=>bQ {s with m:=s.m.alloc ob} dst (way.at s.m.next) k:=by
 rw [uB _ _ _ _ _ _ _ rfl rfl];simp only [Du,R.a7]
theorem dL (t:TypeId) (m x v:Operand):dK tb ih {dst,op:=.mapUpdate t m x v,type:=ty,pos,after,guard:=g} s k=
 (ev s.t m).bind fun m=>(ev s.t x).bind fun x=>(ev s.t v).bind fun v=>(cI tb s.m t m x v).bind fun A=>bQ {s with m:=A} dst cQ k:=by
 unfold dK;show((GS tb s.t s.m (.mapUpdate t m x v)).bind fun(v,A)=>bQ {s with m:=A} dst v k)=_;simp only [GS,R.a7,R.aw]
theorem eV (t:TypeId) (m x:Operand) (b:Bool):dK tb ih {dst,op:=.lookup t m x b,type:=ty,pos,after,guard:=g} s k=
 (ev s.t m).bind fun m=>(ev s.t x).bind fun x=>(fS tb s.m.get t m x b).bind fun v=>bQ s dst v k:=by
 rw [nc _ _ _ _ _ _ _ rfl rfl];simp only [nz,R.a7]
theorem yX (t:T Value) (g:Nat→Option Ob) (e:TypeId) (m x:Operand) (b:Bool):nz tb t g (.lookup e m x b)=(ev t m).bind fun m=>(ev t x).bind fun x=>fS tb g e m x b:=rfl
end
theorem Gq (b:Bool):(Value.bool b).cells.toList=[.bool b]:=rfl
theorem AM (b:Option Nat):(Value.map b).cells.toList=[.map b]:=rfl
theorem dx (b:Option Addr):(Value.pointer b).cells.toList=[.pointer b]:=rfl
theorem Az (b:Nat):Way.mp.at b= .map (some b):=rfl
variable {tb:bL}
theorem Dq:b6.bp 3=some (.int .i64):=by kernel_rfl
theorem LZ:b6.bp 4=some .bool:=by kernel_rfl
theorem mA:b6.bp 5=some (.int .u8):=by kernel_rfl
theorem o_:b6.bp 9=some .string:=by kernel_rfl
theorem h_:b6.bp 103=some (.int .u64):=by kernel_rfl
def Kp (A A':Mem):Prop:=A.next≤A'.next∧∀z,z<A.next→A'.get z=A.get z
theorem Kp.refl (A:Mem):Kp A A:=⟨Zn _,fun _ _=>rfl⟩
variable {A B C:Mem}
theorem Kp.trans (h:Kp A B) (k:Kp B C):Kp A C:=⟨ZV h.1 k.1,fun z hz=>by rw [k.2 z (by have:=h.1;omega),h.2 z hz]⟩
theorem Kp.alloc (A:Mem) (o:Ob):Kp A (A.alloc o):=⟨by rw [ae];omega,fun z hz=>aB (by omega)⟩
def VB (A:Mem) (e:TypeId) (b:Nat) (k:Kd) (l:List Value):Prop:=b<A.next∧dj A e b k l
variable {A':Mem} {b:Nat}
theorem VB.kp {e:TypeId} {k:Kd} {l:List Value} (h:VB A e b k l) (q:Kp A A'):VB A' e b k l:=⟨ZJ h.1 q.1,h.2.same (q.2 b h.1)⟩
variable {o:Nat} {v:Value}
theorem VB.ld {e t:TypeId} {d:TypeDesc} {k:Kd} {l:List Value} (h:VB A e b k l) (hv:l[o]?=some v) (hu:tb.bp t=some d) (ha:cH d=false):ai tb A.get t (pw b o)= .ok v:=aU hu ha h.2 hv
def Fin (tb:bL) (fn:Func) (v:Value) (A':Mem) (e:Ex) (s:St):Prop:=(e= .nrm∨e= .ret)∧s.d=[]∧s.m=A'∧(fj tb s.t A'.get fn.results.toList).bind (fun vs=>.ok (oneOf vs))= .ok v
variable {f:FuncId}
theorem aP {c:Code} {args:List Value} (hf:tb.fn.get f=some fn) (hb:fn.body=some c) (hn:args.length≤fn.ntmps) (hnm:(fn.name== "runtime.NumGoroutine")=false) (hk:tb.hk.get f=none)
 (h:W tb c ⟨T.bR .e 0 args,fn.ntmps,[],A,none⟩ (Fin tb fn v A')):bJ tb f args A v A':=by
 obtain⟨v',B,hg,rfl,rfl⟩:∃v' B,bJ tb f args A v' B∧v'=v∧B=A':=by
  refine dQ hf hb hn hnm hk (h.mono fun e s hs=>?_);obtain⟨h1,h2,h3,h4⟩:=hs;rw [h2,h3];cases hr:fj tb s.t A'.get fn.results.toList with
  |no _=>rw [hr] at h4;cases h4
  |ok vs=>
   rw [hr] at h4;exact⟨h1,A',vs,rfl,hr,by cases h4;rfl,rfl⟩
 exact hg
theorem IY (a b:List UInt8):vR (strOf a) (strOf b)=some (decide (a=b)):=by
 show some (eR a b)=_;rw [dk];congr 1;by_cases h:a=b<;>simp [h]
theorem IX (k:IntKind) (a b:Int):vR (.int k a) (.int k b)=some (decide (a=b)):=by
 show(bif dU k k then some (mb a b) else none)=_;rw [sO,show dU k k=true by cases k<;>rfl];rfl
def cU:List (List UInt8)→Nat→List MapEntry
 | [],_=>[]
 |n::ns,o=>⟨strOf n,.int .i64 (o+1:Nat),o⟩::cU ns (o+1)
theorem uy (w:List UInt8):∀(ns:List (List UInt8)) (o j:Nat),findF (strOf w) (cU ns o) j=some ((ns.findIdx? fun n=>decide (w=n)).map fun i=>(j+i,.int .i64 (o+i+1:Nat)))
 | [],o,j=>rfl
 |n::ns,o,j=>by
  unfold cU findF;simp only [IY,List.findIdx?_cons];by_cases h:w=n
  ·simp [h]
  ·simp only [h,decide_false,Zz,if_false];show findF _ _ (j+1)=_;rw [uy w ns (o+1) (j+1)];cases ns.findIdx? fun n=>decide (w=n) with
   |none=>rfl
   |some i=>simp [qck,Nat.add_left_comm];omega
def fh:List Nat→Nat→List MapEntry
 | [],_=>[]
 |p::ps,o=>⟨.int .i64 (o+1:Nat),.pointer (some ⟨p,0,none⟩),o⟩::fh ps (o+1)
theorem uo (q:Nat):∀(ps:List Nat) (o j:Nat),o≤q→findF (.int .i64 (q+1:Nat)) (fh ps o) j=some ((ps[q-o]?).map fun p=>(j+(q-o),.pointer (some ⟨p,0,none⟩)))
 | [],o,j,_=>by simp [fh,findF]
 |p::ps,o,j,h=>by
  unfold fh findF;simp only [IX];by_cases hq:q=o
  ·subst hq;simp
  ·rw [decide_eq_false (by omega)];show findF _ _ (j+1)=_;rw [uo q ps (o+1) (j+1) (by omega),show q-o=(q-(o+1))+1 by omega,Zk];cases ps[q-(o+1)]? with
   |none=>rfl
   |some p=>simp only [Z1];congr 2;simp;omega
end
end Go.Proofs.YtggndfefpbmaeaaGreatDoor.sto
namespace Go.Am
namespace T
variable {α:Type}
theorem RD (x y:α):∀(f:Nat) (t:T α) (k:Nat),put x f (put y f t k) k=put x f t k:=by
 intro f
 induction f with
 |zero=>intro t k;rfl
 |succ f ih=>
  intro t k;cases t with
  |e=>
   rw [EW,EW];split
   ·rw [mw,if_pos (by assumption)]
   ·split
    ·rw [mw,if_neg (by assumption),if_pos (by assumption),ih]
    ·rw [mw,if_neg (by assumption),if_neg (by assumption),ih]
  |n l v r=>
   rw [mw,mw x f k l r v];split
   ·rw [mw,if_pos (by assumption)]
   ·split
    ·rw [mw,if_neg (by assumption),if_pos (by assumption),ih]
    ·rw [mw,if_neg (by assumption),if_neg (by assumption),ih]
theorem put_comm (x y:α):∀(f g:Nat) (t:T α) (k j:Nat),k≠j→put x f (put y g t j) k=put y g (put x f t k) j:=by
 intro f
 induction f with
 |zero=>intro g t k j _;rfl
 |succ f ih=>
  intro g t k j h;cases g with
  |zero=>rfl
  |succ g=>
   cases t with
   |e=>
    rw [EW,EW];by_cases k0:k=0<;>by_cases j0:j=0<;>by_cases k1:k % 2=1<;>by_cases j1:j % 2=1<;>
     first
     |(exfalso;omega)
     |(simp only [k0,j0,k1,j1,if_true,if_false,mw];first|done|rfl|(rw [ih];omega)|(congr 1;try (rw [ih];omega)))
   |n l v r=>
    rw [mw,mw];by_cases k0:k=0<;>by_cases j0:j=0<;>by_cases k1:k % 2=1<;>by_cases j1:j % 2=1<;>
     first
     |(exfalso;omega)
     |(simp only [k0,j0,k1,j1,if_true,if_false,mw];first|done|rfl|(rw [ih];omega)|(congr 1;try (rw [ih];omega)))
theorem set_set (t:T α) (k:Nat) (x y:α):(t.set k y).set k x=t.set k x:=RD x y _ t k
variable {k j:Nat}
theorem set_comm (t:T α) (x y:α) (h:k≠j):(t.set j y).set k x=(t.set k x).set j y:=put_comm x y _ _ t k j h
theorem yV:∀(l:List α) (t:T α) (i k:Nat) (x:α),k<i→(t.bR i l).set k x=(t.set k x).bR i l
 | [],_,_,_,_,_=>rfl
 |y::l,t,i,k,x,h=>by
  rw [bu,bu,yV l _ (i+1) k x (by omega),set_comm _ _ _ (by omega)]
theorem Bl:∀(l l':List α) (t:T α) (i:Nat),l'.length=l.length→(t.bR i l).bR i l'=t.bR i l'
 | [],[],_,_,_=>rfl
 |x::l,y::l',t,i,h=>by
  rw [bu,bu,bu,yV _ _ _ _ _ (qa1 i),set_set];exact Bl l l' _ (i+1) (by simpa using h)
theorem Jj:∀(l:List α) (t:T α) (i o:Nat) (x:α),o<l.length→(t.bR i l).set (i+o) x=t.bR i (l.set o x)
 |y::l,t,i,0,x,_=>by
  rw [Z8,bu,yV _ _ _ _ _ (qa1 i),set_set];rfl
 |y::l,t,i,o+1,x,h=>by
  rw [bu,show i+(o+1)=(i+1)+o by omega,Jj l _ (i+1) o x (by simpa using h)];rfl
end T
theorem oV (A:Mem) (o o':Ob):(A.alloc o).set A.next o'=A.alloc o':=by
 show Mem.mk ((A.heap.set A.next o).set A.next o') _=Mem.mk _ _;rw [T.set_set];rfl
variable {tb:bL}
variable {A:Mem}
theorem yC {e t:TypeId} {l:List Value} (hs:aV tb t= .ok l.length) (ht:(tb.bp t).map cH=some true):ai tb (A.alloc (aa e l)).get t (.pointer (some ⟨A.next,0,none⟩))= .ok (.agg ⟨l⟩):=by
 cases hu:tb.bp t with
 |none=>rw [hu] at ht;cases ht
 |some d=>rw [hu] at ht;exact aI hu (by simpa using ht) hs (fe A e l)
noncomputable def KN (A:Mem):List (TypeId×List Value)→Mem
 | []=>A
 |x::l=>KN (A.alloc (aa x.1 x.2)) l
variable {l':List Value} {v:Value}
theorem a_ {t e:TypeId} {l:List Value} (hs:aV tb t= .ok l'.length) (hc:v.cells.toList=l') (hl:l'.length=l.length) (h0:l≠ []) (h1:∀v∈l',aH v=true):
 aT tb (A.alloc (aa e l)) t (.pointer (some ⟨A.next,0,none⟩)) v= .ok (A.alloc (aa e l')):=by
 have hg:(A.alloc (aa e l)).get A.next=some (.cells e (.var l.length) 0 (T.bR .e 0 l)):=ay _ _
 unfold aT;simp only [hs,R.aw,hc];rw [show Zr l'.length l'.length=true by rw [qbd],cond_true];unfold c_;have h0':l'≠ []:=fun h=>h0 (Zw.1 (by rw [←hl,h];rfl))
 have hst:=pQ (Bp (.var l.length)) l' 0 (T.bR .e 0 l) h1 fun j hj=>.inl ⟨l[j]'(by omega),by rw [T.eI,if_pos (by omega)];simp [Zi (show j<l.length by omega)]⟩
 cases l' with
 |nil=>exact absurd rfl h0'
 |cons y l'=>
  simp only [hg,hst,R.aw];rw [T.Bl _ _ _ _ hl,oV];unfold aa;rw [hl]
variable {o:Nat}
theorem da {t e:TypeId} {l:List Value} (hs:aV tb t= .ok 1) (hc:v.cells.toList=[v]) (h1:aH v=true) (ho:o<l.length):
 aT tb (A.alloc (aa e l)) t (pw A.next o) v= .ok (A.alloc (aa e (l.set o v))):=by
 have hg:(A.alloc (aa e l)).get A.next=some (.cells e (.var l.length) 0 (T.bR .e 0 l)):=ay _ _
 have hst:=pQ (Bp (.var l.length)) [v] o (T.bR .e 0 l) (by simpa using h1) fun j hj=>.inl (by
  have:j=0:=by simpa using hj
  subst this;exact⟨l[o],by rw [T.eI,if_pos (by omega)];simp [Zi ho]⟩)
 unfold aT;simp only [hs,R.aw,hc];show c_ _ _ [v]=_;unfold c_;simp only [hg,hst,R.aw];have hp:=T.Jj l .e 0 o v ho;rw [ZT] at hp;rw [T.bu,T.cC,hp,oV];unfold aa;rw [ZR]
end Go.Am
namespace Go.Proofs.YtggndfefpbmaeaaGreatDoor.sto
open Go.Am
theorem uv (A:Mem) (x:TypeId×List Value) (l:List (TypeId×List Value)):KN A (x::l)=KN (A.alloc (aa x.1 x.2)) l:=rfl
theorem CJ:∀(l:List (TypeId×List Value)) (A:Mem),Kp A (KN A l)∧(KN A l).next=A.next+l.length
 | [],A=>⟨Kp.refl A,rfl⟩
 |x::l,A=>by
  obtain⟨h1,h2⟩:=CJ l (A.alloc (aa x.1 x.2));rw [uv];exact⟨(Kp.alloc A (aa x.1 x.2)).trans h1,by rw [h2,ae,Zu];omega⟩
theorem IZ:∀(l:List (TypeId×List Value)) (A:Mem) (i:Nat) (x:TypeId×List Value),l[i]?=some x→VB (KN A l) x.1 (A.next+i) (.var x.2.length) x.2
 |y::l,A,0,x,h=>by
  cases h;rw [uv];exact VB.kp (A:=A.alloc (aa y.1 y.2)) ⟨by rw [ae];omega,fe A y.1 y.2⟩ (CJ l _).1
 |y::l,A,i+1,x,h=>by
  have:=IZ l (A.alloc (aa y.1 y.2)) i x h;rw [ae] at this;rw [uv,show A.next+(i+1)=A.next+1+i by omega];exact this
end Go.Proofs.YtggndfefpbmaeaaGreatDoor.sto
namespace Go.Proofs.YtggndfefpbmaeaaGreatDoor.sto
open Go.Am
variable {n:Nat}
theorem cJ (h:n<18446744073709551616):iA .u64 (n:Int)=true:=by
 show Zt n (2^64)=true;rw [ZB];exact h
theorem aR (h:n<9223372036854775808):iA .i64 (n:Int)=true:=by
 show Zt n (2^63)=true;rw [ZB];exact h
theorem jh (h:n<256):iA .u8 (n:Int)=true:=by
 show Zt n 256=true;rw [ZB];exact h
theorem mG {k:IntKind} (h:iA k (n:Int)=true):dp k (n:Int)=(n:Int):=by unfold dp;rw [h];rfl
variable {tb:bL} {k':IntKind}
theorem bx {s d:TypeId} {k:IntKind} (hs:(tb.bp s).isSome=true) (hd:tb.bp d=some (.int k')) (h:iA k' (n:Int)=true):gB tb s d (.int k (n:Int))= .ok (.int k' (n:Int)):=by
 have e:gB tb s d (.int k (n:Int))= .ok (.int k' (dp k' (n:Int))):=by
  unfold gB;rw [hd];cases hq:tb.bp s with
  |none=>rw [hq] at hs;cases hs
  |some _=>rfl
 rw [e,mG h]
theorem MQ {s d:TypeId} {k:IntKind} (hs:(tb.bp s).isSome=true) (hd:tb.bp d=some (.int .u8)):gB tb s d (.int k (n:Int))= .ok (.int .u8 (n % 256:Nat)):=by
 have e:gB tb s d (.int k (n:Int))= .ok (.int .u8 (dp .u8 (n:Int))):=by
  unfold gB;rw [hd];cases hq:tb.bp s with
  |none=>rw [hq] at hs;cases hs
  |some _=>rfl
 rw [e,mF]
variable {b:Nat}
theorem a8 {k:IntKind} {a:Nat} (h:iA k ((a+b:Nat):Int)=true):aK .add k (a:Int) (b:Int)= .ok (.int k ((a+b:Nat):Int)):=by
 show R.ok (Value.int k (dp k ((a:Int)+(b:Int))))=_;rw [show(a:Int)+(b:Int)=((a+b:Nat):Int) by omega,mG h]
theorem bm {k:IntKind} {a:Nat} (hb:b≤a) (h:iA k ((a-b:Nat):Int)=true):aK .sub k (a:Int) (b:Int)= .ok (.int k ((a-b:Nat):Int)):=by
 show R.ok (Value.int k (dp k ((a:Int)-(b:Int))))=_;rw [show(a:Int)-(b:Int)=((a-b:Nat):Int) by omega,mG h]
theorem iE {k:IntKind} {a:Nat} (h:iA k ((a*b:Nat):Int)=true):aK .mul k (a:Int) (b:Int)= .ok (.int k ((a*b:Nat):Int)):=by
 show R.ok (Value.int k (dp k ((a:Int)*(b:Int))))=_;rw [show(a:Int)*(b:Int)=((a*b:Nat):Int) by simp,mG h]
theorem K7 {a:Nat} (ha:a<18446744073709551616) (hb:b<18446744073709551616):aK .or .u64 (a:Int) (b:Int)= .ok (.int .u64 (a|||b:Nat)):=by
 show(bif iA .u64 (a:Int)&&iA .u64 (b:Int) then R.ok (Value.int .u64 (a|||b:Nat)) else .no 11)=_;rw [cJ ha,cJ hb];rfl
theorem Sf {d:Option TypeDesc} {a:Nat} (h:b<64) (h2:a<<<b<18446744073709551616):ik .shl d (.int .u64 a) (.int k' (b:Int))= .ok (.int .u64 (a<<<b:Nat)):=by
 have e:ik .shl d (.int .u64 a) (.int k' (b:Int))=(bif Zt b 64 then R.ok (Value.int .u64 (dp .u64 ((a<<<b:Nat):Int))) else .ok (.int .u64 0)):=rfl;have hb:Zt b 64=true:=by rw [ZB];exact h
 rw [e,hb,cond_true,mG (cJ h2)]
theorem I6 {ts:List TypeId} {a:Nat}:aL tb .min ts [.int .u64 a,.int .u64 b]= .ok (.int .u64 (min a b:Nat)):=by
 have e:aL tb .min ts [.int .u64 a,.int .u64 b]= .ok (.int .u64 (bif Zt b a then(b:Int) else(a:Int))):=by
  cases ts<;>rfl
 rw [e];cases h:Zt b a with
 |true=>
  have:b<a:=by simpa [ZB] using h
  rw [qby (by omega)];rfl
 |false=>
  have:¬b<a:=by intro hx;rw [←ZB,h] at hx;cases hx
  rw [qam (by omega)];rfl
theorem tp {d:Option TypeDesc} {a:Nat} (h:b<64):ik .shr d (.int .u64 a) (.int k' (b:Int))= .ok (.int .u64 (a>>>b:Nat)):=by
 have e:ik .shr d (.int .u64 a) (.int k' (b:Int))= .ok (.int .u64 (.ofNat (qdG a (bif Zt b 64 then b else 64)))):=rfl;have hb:Zt b 64=true:=by rw [ZB];exact h
 rw [e,hb,cond_true];rfl
def gz (n:Nat):Nat:=if n=0 then 0 else n.log2+1
theorem xD {a:Nat} (h:2^a≤n):gz n=a+gz (n>>>a):=by
 have hn:n≠0:=by have:=qbM a;omega
 have hd:n/2^a≠0:=by
  have:=(Nat.le_div_iff_mul_le (qbM a)).2 (show 1*2^a≤n by omega);omega
 unfold gz;rw [qai,if_neg hn,if_neg hd];have h1:n.log2=a+(n/2^a).log2:=by
  apply Nat.le_antisymm
  ·have:n.log2<a+(n/2^a).log2+1:=by
    rw [qdr hn,show a+(n/2^a).log2+1=((n/2^a).log2+1)+a by omega,qds];have:=(qdr hd).1 (qa1 _);exact(qcK (qbM a)).1 this
   omega
  ·rw [Nat.le_log2 hn,qck,qds];exact(Nat.le_div_iff_mul_le (qbM a)).1 ((Nat.le_log2 hd).1 (Zn _))
 omega
theorem uq {l:List UInt8} (hl:(Zr l.length 256&&(qay 256).all fun i=>Zr (l.getD i 0).toNat (gz i))=true) (h:n<256):mY b6 9 (strOf l) (.int .u8 n)= .ok (.int .u8 (gz n:Nat)):=by
 rw [ZF] at hl;have e1:=ZA hl.1;rw [eg o_ (by omega),ZA (qat.1 hl.2 n (List.mem_range.2 h))]
theorem BY (h:n<256):gz n<256:=by
 unfold gz;split
 ·omega
 ·rename_i h0;have:=(qdr h0 (k:=8)).2 h;omega
theorem half (n a b:Nat) (h:n<2^(a+b)):∃x s,gz n=s+gz x∧x<2^max a b∧s≤a∧((x=n>>>a∧s=a∧2^a≤n)∨(x=n∧s=0∧¬2^a≤n)):=by
 by_cases ha:2^a≤n
 ·refine⟨n>>>a,a,xD ha,?_,Zn _,.inl ⟨rfl,rfl,ha⟩⟩;rw [qai];refine ZJ ((qcK (qbM a)).2 (by rw [←qds,qck b a];exact h)) (qaq (by omega) (Nat.le_max_right a b))
 ·exact⟨n,0,by omega,ZJ (by omega) (qaq (by omega) (Nat.le_max_left a b)),Zv _,.inr ⟨rfl,rfl,ha⟩⟩
variable {A:Mem}
theorem Lq (n:Nat) (hn:n<18446744073709551616):bJ b6 229 [.int .u64 n] A (.int .i64 (gz n:Nat)) A:=by
 obtain⟨x1,s1,e1,b1,m1,h1⟩:=half n 32 32 hn;obtain⟨x2,s2,e2,b2,m2,h2⟩:=half x1 16 16 b1;obtain⟨x3,s3,e3,b3,m3,h3⟩:=half x2 8 8 b2;have b3:x3<256:=b3;have e:gz n=s1+s2+s3+gz x3:=by omega
 have hb:=BY b3;have c1:=bx (tb:=b6) (s:=103) (d:=5) (k:=.u64) (n:=x3) (by rw [h_];rfl) mA (jh b3);have c2:=bx (tb:=b6) (s:=5) (d:=3) (k:=.u8) (n:=gz x3) (by rw [mA];rfl) Dq (aR (by omega));rw [e];clear e e1 e2 e3 b1 b2 hn m1 m2 m3;simp only [Nat.reducePow] at h1 h2 h3;rcases h1 with⟨rfl,rfl,h1⟩|⟨rfl,rfl,h1⟩<;>rcases h2 with⟨rfl,rfl,h2⟩|⟨rfl,rfl,h2⟩<;>rcases h3 with⟨rfl,rfl,h3⟩|⟨rfl,rfl,h3⟩
 all_goals
  refine aP (bB Tryz.func229) (c:=qcT.body.getD .skip) (by kernel_rfl) (by rw [Tryz.ntmps229];simp) (by kernel_rfl) (by kernel_rfl) ?_;apply W.run 60
  ·intro M;simp (disch:=first|decide+kernel|omega) only [qcT,Aq,Zf,bN,bj,h1,h2,h3,c1,c2,uq,tp,ZT,Z8];rfl
  exact⟨by simp,rfl,rfl,by simp only [qcT,Aq,Zf,bN,bj,h1,h2,h3,c1,c2,uq,tp,ZT,Z8]<;>rfl⟩
end Go.Proofs.YtggndfefpbmaeaaGreatDoor.sto
end
