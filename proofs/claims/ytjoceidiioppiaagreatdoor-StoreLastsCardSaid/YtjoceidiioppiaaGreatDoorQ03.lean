/- The abstract machine, the walk of the law and its plain laws, made small by a program; part 3: no conditions but those in each theorem. -/
import Derived.Test.YtjoceidiioppiaaGreatDoorQ02
import Derived.Test.YtjoceidiioppiaaGreatDoorChecked
import Derived.KernelRfl
set_option maxHeartbeats 16000000
set_option maxRecDepth 100000
set_option linter.unusedSimpArgs false
set_option linter.unusedVariables false
set_option linter.defProp false
noncomputable section
open List renaming getElem?_eq_getElem→qan,getElem?_eq_some_iff→qap,length_append→qar,length_map→qas,getElem?_cons_zero→qau,getElem?_cons_succ→qav,mem_cons_of_mem→qay,mem_cons_self→qaz,length_cons→qaA,length_take→qaE,getElem?_append_right→qaF,getElem?_append_left→qaJ,getElem?_map→qaN,length_eq_zero_iff→qaP,length_set→qaQ,take_length→qaR,length_singleton→qaS,length_nil→qaT,mem_singleton→qaY,mem_of_getElem?→qa0,mem_map→qa3,getElem?_eq_none→qbc,map_append→qbe,cons_append→qbf,append_assoc→qbh,map_eq_nil_iff→qbk,append_nil→qbt,nil_append→qbv,map_cons→qbx,all_eq_true→qby,getElem?_set→qbB,mem_append→qbF,mem_of_mem_take→qbH,range→qbN,mem_or_eq_of_mem_set→qbR,flatten_cons→qb3,map_nil→qcp,take_append_drop→qcx,getElem?_range→qcZ,all_cons→qet
open Nat renaming le_refl→qao,ble→qaq,beq→qaw,blt→qax,zero_le→qaB,lt_of_lt_of_le→qaD,le_of_ble_eq_true→qaG,blt_eq→qaH,eq_of_beq_eq_true→qaL,le_trans→qaV,zero_add→qa1,add_zero→qa8,ble_eq_true_of_le→qbd,lt_of_le_of_lt→qbj,sub_self→qbq,min_eq_left→qbr,sub_zero→qbA,mod_lt→qbE,mod_eq_of_lt→qbL,lt_succ_self→qbP,mul_one→qb2,sub_add_cancel→qce,add_assoc→qck,add_mul→qcl,one_mul→qcG,beq_eq→qcI,beq_refl→qcJ,mul_le_mul_right→qcK,strongRecOn→qcL,zero_mul→qcN,max_eq_right→qc5,min_eq_right→qc6,lt_irrefl→qdh,succ→qdi,ble_eq→qdm,add_comm→qdt,not_lt_zero→qdD,ne_of_beq_eq_false→qdL,div_lt_iff_lt_mul→qdU
open Prod.mk renaming injEq→qat
open Bool renaming false_eq_true→qaI,and_eq_true→qaO,eq_iff_iff→qbK,and_true→qci,not_true→qcj,true_and→qcs,not_false→qc1
open Array renaming getElem?_eq_some_iff→qaM,getElem?_toList→qaU,replicate→qb9,getElem?_eq_getElem→qdk,getD_eq_getD_getElem?→qdX
open Option.some renaming injEq→qaX,inj→qbo
open Int renaming ofNat_eq_natCast→qa2
open Option renaming map_some→qa5,getD_some→qbG,isSome_none→qbI,bind_some→qcf
open Go.Proofs.Tryz renaming prog→qba,checked→qcO
open UInt8 renaming ofNat→qbD,toNat_ofNat'→qep
namespace Go.Am
section
def flat:Nat→Value→Bool
 |0,_=>false
 |d+1,v=>
  match v with
  | .bool _| .int _ _| .string _=>true
  | .agg l=>l.toList.all (flat d)
  | .tuple l=>l.toList.all (flat d)
  | .nilIface| .pointer none| .slice none 0 0| .map none| .nilFunc=>true
  | .iface _ v=>flat d v
  |_=>false
mutual
theorem CY {ι ι':de}:∀(d:Nat) (v v':Value),flat d v=true→VR ι v v'→VR ι' v v'
 |0,_,_,h,_=>by simp [flat] at h
 |d+1,v,v',h,hv=>by
  unfold flat at h;split at h
  ·cases hv;exact .bool _
  ·cases hv;exact .int _ _
  ·cases hv;exact .string _
  ·cases hv with
   |agg hs=>exact .agg (rR d _ _ (qby.1 h) hs)
  ·cases hv with
   |tuple hs=>exact .tuple (rR d _ _ (qby.1 h) hs)
  ·cases hv;exact .nilIface
  ·cases hv;exact .ptrN
  ·cases hv;exact .slN
  ·cases hv;exact .mapN
  ·cases hv;exact .nilFunc
  ·cases hv with
   |iface hs=>exact .iface (CY d _ _ h hs)
  ·cases h
theorem rR {ι ι':de}:∀(d:Nat) (l l':List Value),(∀v∈l,flat d v=true)→dv ι l l'→dv ι' l l'
 |_,[],_,_,h=>by cases h;exact .nil
 |d,v::l,_,hf,h=>by
  cases h with
  |cons hv ht=>exact .cons (CY d v _ (hf v (by simp)) hv) (rR d l _ (fun x hx=>hf x (by simp [hx])) ht)
end
variable {ι:de} {A:Mem} {w':World}
theorem HM {w:World} (hr:Rel ι A w) (hl:Leaves w w'):Rel ι A w'∧eH ι A w ι A w':=by
 refine⟨⟨hr.wf,fun b o l hg ha hb=>?_,fun b l hb=>qaD (hr.rng b l hb) hl.2.1,hr.inj,hr.gl⟩,⟨qao _,fun _ _=>rfl,fun b l hb hll=>.inr ⟨b,l,hb,hll,rfl⟩,fun c hc _=>hl.1 c hc,hl.2.1,hl.2.2.1,hl.2.2.2.1,hl.2.2.2.2,fun b l hb _=>⟨rfl,hl.1 _ (hr.rng b l hb)⟩⟩⟩;obtain⟨o',h1,h2⟩:=hr.obs b o l hg ha hb;exact⟨o',by rw [hl.1 _ (hr.rng b l hb)];exact h1,h2⟩
def aK (sp:List Value→Option Value):List Value→Mem→R (Value×Mem):=fun args A=>
 match sp args with
 |some v=>.ok (v,A)
 |none=>.no 600
variable {tb:bO} (ok:cC tb)
include ok in
theorem dP {f:FuncId} {fn:Func} {c:Code} (hf:tb.fn.get f=some fn) (hb:fn.body=some c) {sp:List Value→Option Value}
 (h:∀args v,sp args=some v→(∀x∈args,flat 9 x=true)∧flat 9 v=true∧∃n A1,call tb n f args dZ= .ok (.val v A1)):b9 tb.P f (aK sp):=by
 intro args A v A' ha;unfold aK at ha;split at ha
 ·rename_i v0 hsp;simp only [R.ok.injEq,qat] at ha;obtain⟨rfl,rfl⟩:=ha;obtain⟨hfa,hfv,n,A1,hc⟩:=h args v0 hsp;refine⟨qao _,fun ι w args' hr hargs _ fr cs=>?_⟩;unfold call at hc;simp only [hf,hb] at hc;rcases xH ok (jS ok n) hf hb hc with⟨_,_,h1,_⟩|⟨v,A',h1,hle,hs⟩
  ·cases h1
  ·cases h1;obtain⟨ι',w',v',⟨fr0,st,hfn,hlv⟩,hv,hrel,hst⟩:=hs (fun _=>none) w args' (fr::cs) (ZB w) (rR 9 _ _ hfa hargs) (fun _ _ _=>rfl);have hl:Leaves w w':=⟨fun c hc=>hst.fr c hc (fun b l hl _=>absurd hl (Lv b)),hst.size,hst.os,hst.tape,hst.output⟩;obtain⟨h2,h3⟩:=HM hr hl;exact⟨ι,w',v',st.trans (.one (step_leave_returned hlv)),CY 9 _ _ hfv hv,h2,h3⟩
 ·cases ha
def bO.qd (tb:bO) (f:FuncId) (h:List Value→Mem→R (Value×Mem)):bO:={tb with hk:=tb.hk.set f h}
include ok in
theorem bV {f:FuncId} {h:List Value→Mem→R (Value×Mem)} (hh:b9 tb.P f h):cC (tb.qd f h) where
 ty:=ok.ty
 fn:=ok.fn
 mixed:=ok.mixed
 ex:=ok.ex
 hk:=fun g k hg=>by
  have hg':(tb.hk.set f h).get g=some k:=hg;rw [T.aH] at hg';split at hg'
  ·rename_i e;cases hg';rw [e];exact hh
  ·exact ok.hk g k hg'
end
section
variable {tb:bO} {ih:Code→St→R (Ex×St)}
theorem R.aw {α β:Type} (a:α) (f:α→R β):(R.ok a).bind f=f a:=rfl
theorem rO (n:Nat) (a b:Code) (s:St):exec tb (n+1) (.seq a b) s=(exec tb n a s).bind fun(e,s')=>match e with
 | .nrm=>exec tb n b s'
 |e=>.ok (e,s'):=rfl
theorem uw (n id:Nat) (ops:Array Oper) (s:St):exec tb (n+1) (.region id ops false) s=dY tb (exec tb n) ops.toList ops.toList s:=rfl
theorem AH (n:Nat) (s:St):exec tb (n+1) .skip s= .ok (.nrm,s):=rfl
theorem ED (n:Nat) (s:St):exec tb (n+1) .ret s= .ok (.ret,s):=rfl
theorem AG (n id:Nat) (s:St):exec tb (n+1) (.exit id) s= .ok (.exit id,s):=rfl
theorem qQ (n:Nat) (c:Code) (s:St):exec tb (n+1) (.scope c) s=exec tb n c s:=rfl
theorem jQ (n id:Nat) (c:Code) (s:St):exec tb (n+1) (.block id c) s=(exec tb n c s).bind fun(e,s')=>match e with
 | .exit i=>bif qaw i id then .ok (.nrm,s') else .ok (.exit i,s')
 |e=>.ok (e,s'):=rfl
theorem pE (n:Nat) (c:Operand) (a b:Code) (s:St):exec tb (n+1) (.cond c a b) s=(ev s.t c).bind fun v=>match v with
 | .bool true=>exec tb n a s
 | .bool false=>exec tb n b s
 |_=>.no 330:=rfl
theorem pF (n:Nat) (c:Code) (s:St):exec tb (n+1) (.loop c) s=(exec tb n c s).bind fun(e,s')=>match e with
 | .nrm=>exec tb n (.loop c) s'
 |e=>.ok (e,s'):=rfl
theorem Er {α:Type} (p:Bool) (x y:R α) (z:R α):(match Value.bool p with
 | .bool true=>x
 | .bool false=>y
 |_=>z)=if p=true then x else y:=by cases p<;>rfl
theorem yN (ops:List Oper) (s:St):dY tb ih ops [] s= .ok (.nrm,s):=rfl
theorem uM (ops l:List Oper) (dst:Option Tmp) (op:Op) (ty:TypeId) (pos:String) (after:Array Edge) (s:St):
 dY tb ih ops ({dst,op,type:=ty,pos,after,guard:=none}::l) s=dL tb ih {dst,op,type:=ty,pos,after,guard:=none} s (dY tb ih ops l):=rfl
section
variable (dst:Option Tmp) (ty:TypeId) (pos:String) (after:Array Edge) (g:Option (Nat×Bool)) (s:St) (k:St→R (Ex×St))
theorem Fo (x:Operand):dL tb ih {dst,op:=.move x,type:=ty,pos,after,guard:=g} s k=(ev s.t x).bind fun v=>bR s dst v k:=rfl
theorem yf (x:Operand):dL tb ih {dst,op:=.assign x,type:=ty,pos,after,guard:=g} s k=(ev s.t x).bind fun v=>bR s dst v k:=rfl
theorem R.a7 {α β γ:Type} (x:R α) (f:α→R β) (h:β→R γ):(x.bind f).bind h=x.bind fun a=>(f a).bind h:=by cases x<;>rfl
theorem jb {o:Op} (hc:cls tb o= .P) (hi:iz o=none):dL tb ih {dst,op:=o,type:=ty,pos,after,guard:=g} s k=(tQ tb s.t o).bind fun v=>bR s dst v k:=by
 unfold dL;simp only [hi,hc]
theorem nq {o:Op} (hc:cls tb o= .Rd) (hi:iz o=none):dL tb ih {dst,op:=o,type:=ty,pos,after,guard:=g} s k=(nX tb s.t s.m.get o).bind fun v=>bR s dst v k:=by
 unfold dL;simp only [hi,hc]
theorem tO {o:Op} (hc:cls tb o= .Al) (hi:iz o=none):dL tb ih {dst,op:=o,type:=ty,pos,after,guard:=g} s k=(DW tb s.t o).bind fun(ob,way)=>bR {s with m:=s.m.alloc ob} dst (way.at s.m.next) k:=by
 unfold dL;simp only [hi,hc]
theorem Di (op:BinOp) (t:TypeId) (x y:Operand) (r:TypeId) (hc:cls tb (.binOp op t x y r)= .P):dL tb ih {dst,op:=.binOp op t x y r,type:=ty,pos,after,guard:=g} s k=
 (ev s.t x).bind fun a=>(ev s.t y).bind fun b=>(iM op (tb.ba t) a b).bind fun v=>bR s dst v k:=by
 rw [jb _ _ _ _ _ _ _ hc rfl];simp only [tQ,R.a7]
def RW:BinOp→Bool
 | .eql| .neq=>false
 |_=>true
theorem JI (op:BinOp) (t:TypeId) (x y:Operand) (r:TypeId) (h:RW op=true):dL tb ih {dst,op:=.binOp op t x y r,type:=ty,pos,after,guard:=g} s k=
 (ev s.t x).bind fun a=>(ev s.t y).bind fun b=>(iM op (tb.ba t) a b).bind fun v=>bR s dst v k:=
 Di _ _ _ _ _ _ _ _ _ _ _ _ (by cases op<;>first|rfl|cases h)
theorem JM (t:TypeId) (x y:Operand) (r:TypeId) (h:lW (tb.ba t)=true):dL tb ih {dst,op:=.binOp .neq t x y r,type:=ty,pos,after,guard:=g} s k=
 (ev s.t x).bind fun a=>(ev s.t y).bind fun b=>(iM .neq (tb.ba t) a b).bind fun v=>bR s dst v k:=
 Di _ _ _ _ _ _ _ _ _ _ _ _ (by unfold cls;simp only [h,cond_true])
theorem JK (t:TypeId) (x y:Operand) (r:TypeId) (h:lW (tb.ba t)=true):dL tb ih {dst,op:=.binOp .eql t x y r,type:=ty,pos,after,guard:=g} s k=
 (ev s.t x).bind fun a=>(ev s.t y).bind fun b=>(iM .eql (tb.ba t) a b).bind fun v=>bR s dst v k:=
 Di _ _ _ _ _ _ _ _ _ _ _ _ (by unfold cls;simp only [h,cond_true])
theorem OZ (op:UnOp) (t:TypeId) (x:Operand):dL tb ih {dst,op:=.unOp op t x,type:=ty,pos,after,guard:=g} s k=(ev s.t x).bind fun a=>(WT op a).bind fun v=>bR s dst v k:=by
 rw [jb _ _ _ _ _ _ _ rfl rfl];simp only [tQ,R.a7]
theorem Bc (t:TypeId) (x y:Operand):dL tb ih {dst,op:=.index t x y,type:=ty,pos,after,guard:=g} s k=(ev s.t x).bind fun a=>(ev s.t y).bind fun b=>(nf tb t a b).bind fun v=>bR s dst v k:=by
 rw [jb _ _ _ _ _ _ _ rfl rfl];simp only [tQ,R.a7]
theorem qt (t:TypeId) (x:Tmp) (y:Operand):dL tb ih {dst,op:=.indexAddr t (.tmp x) y,type:=ty,pos,after,guard:=g} s k=(ev s.t (.tmp x)).bind fun a=>(ev s.t y).bind fun b=>(aU tb t a b).bind fun v=>bR s dst v k:=by
 rw [jb _ _ _ _ _ _ _ rfl rfl];simp only [tQ,R.a7]
theorem qs (t:TypeId) (x:Operand) (i:Nat):dL tb ih {dst,op:=.fieldAddr t x i,type:=ty,pos,after,guard:=g} s k=(ev s.t x).bind fun a=>(av tb t a i).bind fun v=>bR s dst v k:=by
 rw [jb _ _ _ _ _ _ _ rfl rfl];simp only [tQ,R.a7]
theorem Bb (t:TypeId) (x:Operand) (i:Nat):dL tb ih {dst,op:=.field t x i,type:=ty,pos,after,guard:=g} s k=(ev s.t x).bind fun a=>(tE tb t a i).bind fun v=>bR s dst v k:=by
 rw [jb _ _ _ _ _ _ _ rfl rfl];simp only [tQ,R.a7]
theorem Ba (t:TypeId) (ps:Array (Nat×Operand)):dL tb ih {dst,op:=.build t ps,type:=ty,pos,after,guard:=g} s k=(Hr s.t ps.toList).bind fun ps=>(ct tb t ps).bind fun v=>bR s dst v k:=by
 rw [jb _ _ _ _ _ _ _ rfl rfl];simp only [tQ,R.a7]
theorem Be (t:TypeId) (x:Operand) (lo hi mx:Option Operand):dL tb ih {dst,op:=.slice t x lo hi mx,type:=ty,pos,after,guard:=g} s k=
 (ev s.t x).bind fun x=>(EC s.t lo).bind fun lo=>(EC s.t hi).bind fun hi=>(EC s.t mx).bind fun mx=>(c6 tb t x lo hi mx).bind fun v=>bR s dst v k:=by
 rw [jb _ _ _ _ _ _ _ rfl rfl];simp only [tQ,R.a7]
def xr (x:Value) (i:Nat):R Value:=
 match x with
 | .tuple vs=>match vs.toList[i]? with
  |some v=>.ok v
  |none=>.no 211
 |_=>.no 212
theorem uI (x:Operand) (i:Nat):dL tb ih {dst,op:=.extract x i,type:=ty,pos,after,guard:=g} s k=(ev s.t x).bind fun a=>(xr a i).bind fun v=>bR s dst v k:=by
 rw [jb _ _ _ _ _ _ _ rfl rfl];simp only [tQ,R.a7];rfl
def JN (t:T Value) (c:Value) (a b:Operand):R Value:=
 match c with
 | .bool true=>ev t a
 | .bool false=>ev t b
 |_=>.no 207
theorem Fp (c a b:Operand):dL tb ih {dst,op:=.pick c a b,type:=ty,pos,after,guard:=g} s k=(ev s.t c).bind fun c=>(JN s.t c a b).bind fun v=>bR s dst v k:=by
 rw [jb _ _ _ _ _ _ _ rfl rfl];simp only [tQ,R.a7];rfl
theorem Fm (t:TypeId) (x:Tmp):dL tb ih {dst,op:=.load t (.tmp x),type:=ty,pos,after,guard:=g} s k=(ev s.t (.tmp x)).bind fun a=>(ag tb s.m.get t a).bind fun v=>bR s dst v k:=by
 rw [nq _ _ _ _ _ _ _ rfl rfl];simp only [nX,R.a7]
theorem A_ (t:TypeId):dL tb ih {dst,op:=.alloc t,type:=ty,pos,after,guard:=g} s k=(bS tb t).bind fun z=>bR {s with m:=s.m.alloc (aa t z.cells.toList)} dst (Way.ptr.at s.m.next) k:=by
 rw [tO _ _ _ _ _ _ _ rfl rfl];simp only [DW,R.a7,R.aw]
theorem JJ (t:TypeId) (x:Operand):dL tb ih {dst,op:=.box t x,type:=ty,pos,after,guard:=g} s k=(ev s.t x).bind fun v=>bR {s with m:=s.m.alloc (aa t v.cells.toList)} dst (Way.ptr.at s.m.next) k:=by
 rw [tO _ _ _ _ _ _ _ rfl rfl];simp only [DW,R.a7,R.aw]
theorem oW (t:TypeId) (len:Nat) (ps:Array (Nat×Operand)):dL tb ih {dst,op:=.buildSlice t len ps,type:=ty,pos,after,guard:=g} s k=
 (Hr s.t ps.toList).bind fun ps=>(a6 tb t len ps).bind fun(ob,way)=>bR {s with m:=s.m.alloc ob} dst (way.at s.m.next) k:=by
 rw [tO _ _ _ _ _ _ _ rfl rfl];simp only [DW,R.a7]
theorem qu (t:TypeId) (l c:Operand):dL tb ih {dst,op:=.makeSlice t l c,type:=ty,pos,after,guard:=g} s k=
 (ev s.t l).bind fun l=>(ev s.t c).bind fun c=>(eE tb t l c).bind fun(ob,way)=>bR {s with m:=s.m.alloc ob} dst (way.at s.m.next) k:=by
 rw [tO _ _ _ _ _ _ _ rfl rfl];simp only [DW,R.a7]
theorem Bf (t:TypeId) (x v:Operand):dL tb ih {dst,op:=.store t x v,type:=ty,pos,after,guard:=g} s k=
 (ev s.t x).bind fun x=>(ev s.t v).bind fun v=>(aW tb s.m t x v).bind fun A=>bR {s with m:=A} dst bL k:=by
 unfold dL;show((HI tb s.t s.m (.store t x v)).bind fun(v,A)=>bR {s with m:=A} dst v k)=_;simp only [HI,R.a7,R.aw]
def isNum:Option TypeDesc→Bool
 |some (.int _)=>true
 |_=>false
theorem Fl (a b:TypeId) (x:Operand) (h:isNum (tb.ba a)=true):dL tb ih {dst,op:=.convert a b x,type:=ty,pos,after,guard:=g} s k=(ev s.t x).bind fun x=>(gi tb a b x).bind fun v=>bR s dst v k:=by
 have hc:cls tb (.convert a b x)= .P:=by
  unfold cls;cases hu:tb.ba a with
  |none=>rw [hu] at h;cases h
  |some d=>
   rw [hu] at h;cases d<;>first
    |(cases h;done)
    |(simp only [hu];done)
    |(simp only [hu];cases tb.ba b with
     |none=>rfl
     |some d2=>cases d2<;>rfl)
 rw [jb _ _ _ _ _ _ _ hc rfl];simp only [tQ,R.a7]
theorem zY (a b:TypeId) (x:Operand) {e:TypeId} (h:tb.ba a=some .string) (h':tb.ba b=some (.slice e)):dL tb ih {dst,op:=.convert a b x,type:=ty,pos,after,guard:=g} s k=
 (ev s.t x).bind fun x=>(ku tb a b x).bind fun(ob,way)=>bR {s with m:=s.m.alloc ob} dst (way.at s.m.next) k:=by
 have hc:cls tb (.convert a b x)= .Al:=by unfold cls;simp only [h,h']
 rw [tO _ _ _ _ _ _ _ hc rfl];simp only [DW,R.a7]
theorem lL (a b:TypeId) (x:Operand) {e:TypeId} (h:tb.ba a=some (.slice e)) (h':tb.ba b=some .string):dL tb ih {dst,op:=.convert a b x,type:=ty,pos,after,guard:=g} s k=
 (ev s.t x).bind fun x=>(df tb s.m.get a b x).bind fun v=>bR s dst v k:=by
 have hc:cls tb (.convert a b x)= .Rd:=by unfold cls;simp only [h,h']
 rw [nq _ _ _ _ _ _ _ hc rfl];simp only [nX,R.a7]
def U8:Option TypeDesc→Bool
 |some (.map _ _)=>true
 |_=>false
theorem JL (args:Array Operand) (t:TypeId) (h:U8 (tb.ba t)=false):dL tb ih {dst,op:=.call {callee:=.builtin .len,args,argTypes:= #[t]},type:=ty,pos,after,guard:=g} s k=
 (pC s.t args.toList).bind fun a=>(aN tb .len [t] a).bind fun v=>bR s dst v k:=by
 have hc:cls tb (.call {callee:=.builtin .len,args,argTypes:= #[t]})= .P:=by
  unfold cls;cases hu:tb.ba t with
  |none=>simp only [hu]
  |some d=>rw [hu] at h;cases d<;>first|(simp only [hu];done)|cases h
 rw [jb _ _ _ _ _ _ _ hc rfl];simp only [tQ,R.a7]
theorem yh (b:Builtin) (args:Array Operand) (ts:Array TypeId) (h:b= .min∨b= .max∨b= .cap):dL tb ih {dst,op:=.call {callee:=.builtin b,args,argTypes:=ts},type:=ty,pos,after,guard:=g} s k=
 (pC s.t args.toList).bind fun a=>(aN tb b ts.toList a).bind fun v=>bR s dst v k:=by
 have hc:cls tb (.call {callee:=.builtin b,args,argTypes:=ts})= .P:=by rcases h with rfl|rfl|rfl<;>rfl
 rw [jb _ _ _ _ _ _ _ hc rfl];simp only [tQ,R.a7]
theorem uH (b:Builtin) (args:Array Operand) (ts:Array TypeId) (h:b= .append∨b= .copy):dL tb ih {dst,op:=.call {callee:=.builtin b,args,argTypes:=ts},type:=ty,pos,after,guard:=g} s k=
 (pC s.t args.toList).bind fun a=>(gJ tb s.m b ts.toList a).bind fun(v,A)=>bR {s with m:=A} dst v k:=by
 rcases h with rfl|rfl
 all_goals
  unfold dL;show((HI tb s.t s.m (.call _)).bind fun(v,A)=>bR {s with m:=A} dst v k)=_;simp only [HI,R.a7]
def O' (s:St) (dst:Option Tmp) (k:St→R (Ex×St)):Gp→R (Ex×St)
 | .val v A=>bR {s with m:=A} dst v k
 | .kx v A=>.ok (.kx v,{s with m:=A})
theorem Fk (f:FuncId) (args:Array Operand) (ts:Array TypeId):dL tb ih {dst,op:=.call {callee:=.value (.func f),args,argTypes:=ts},type:=ty,pos,after,guard:=g} s k=
 (pC s.t args.toList).bind fun a=>(bA tb ih (.fn f a) s.m).bind fun r=>O' s dst k r:=by
 unfold dL;show((w_ tb s.t s.m.get {callee:=.value (.func f),args,argTypes:=ts}).bind fun cl=>(bA tb ih cl s.m).bind fun r=>match r with
  | .val v A=>bR {s with m:=A} dst v k
  | .kx v A=>.ok (.kx v,{s with m:=A}))=_
 have hcl:w_ tb s.t s.m.get {callee:=.value (.func f),args,argTypes:=ts}=(pC s.t args.toList).bind fun a=>.ok (.fn f a):=by
  unfold w_;cases pC s.t args.toList with
  |no _=>rfl
  |ok a=>simp only [R.aw,ev,iG,qbv,qbt]
 rw [hcl];simp only [R.a7,R.aw];cases pC s.t args.toList with
 |no _=>rfl
 |ok a=>
  simp only [R.aw];cases bA tb ih (.fn f a) s.m with
  |no _=>rfl
  |ok r=>cases r<;>rfl
end
theorem filter_none {α:Type} (l:List α):l.filter (fun _=>false)=[]:=by simp
theorem EP (A:Mem):ff [] A=A:=rfl
theorem FB (ops:List Oper):∀(l:List Oper) (i:Nat) (mems:List (Nat×Mem)) (recs:List Rec) (mks:List (Nat×Nat)) (s:St),dX tb ih ops [] l i mems recs mks s=dY tb ih ops l s
 | [],_,_,_,_,_=>rfl
 |o::l,i,mems,recs,mks,s=>by
  show((fu ops o s.t).bind fun w=>
   bif w then
    match cls tb o.op with
    | .L=>dL tb ih o {s with m:=ff ((mks.filter fun x=>b_ x.1 i []).map (·.2)) s.m} fun s'=>
     (gI s.m.get ((mks.filter fun x=>b_ x.1 i []).map (·.2)) s'.m).bind fun A=>
     bif (recs.filter fun x=>b_ x.i i []).all (eg tb A.get) then dX tb ih ops [] l (i+1) ((i,s.m)::mems) recs mks {s' with m:=A} else .no 310
    | .Rd=>(nX tb s.t s.m.get o.op).bind fun v=>
     bif (mems.filter fun m=>b_ i m.1 []).all (fun m=>eg tb m.2.get ⟨i,s.t,o.op,v⟩) then bR s o.dst v (dX tb ih ops [] l (i+1) mems (⟨i,s.t,o.op,v⟩::recs) mks) else .no 311
    | .Al=>dL tb ih o s fun s'=>dX tb ih ops [] l (i+1) (wE s.m.next (s'.m.get s.m.next) mems) recs ((i,s.m.next)::mks) s'
    | .P=>dL tb ih o s (dX tb ih ops [] l (i+1) mems recs mks)
   else bR s o.dst bL (dX tb ih ops [] l (i+1) mems recs mks))=((fu ops o s.t).bind fun w=>bif w then dL tb ih o s (dY tb ih ops l) else bR s o.dst bL (dY tb ih ops l))
  have e:∀i mems recs mks,dX tb ih ops [] l i mems recs mks=dY tb ih ops l:=fun i mems recs mks=>funext fun s=>FB ops l i mems recs mks s
  have hp:∀a b:Nat,b_ a b []=false:=fun _ _=>rfl
  simp only [e,hp,filter_none,qcp,EP,gI,R.aw,List.all_nil,cond_true];cases fu ops o s.t with
  |no _=>rfl
  |ok w=>
   cases w with
   |false=>rfl
   |true=>
    simp only [R.aw,cond_true];cases hc:cls tb o.op with
    |Rd=>
     simp only
     unfold dL;have hi:iz o.op=none:=by
      cases ho:iz o.op with
      |none=>rfl
      |some c=>
       exfalso;unfold iz at ho;split at ho
       ·rename_i c' hop;rw [hop] at hc;unfold cls at hc;simp only at hc;split at hc
        ·rename_i hb;rw [hb] at ho;simp at ho
        ·cases hc
       ·cases ho
     simp only [hi,hc]
    |_=>rfl
def Eu (tb:bO) (ops:List Oper):Bool:=
 match gU tb ops with
 | .ok []=>true
 |_=>false
variable {n:Nat} {ops:Array Oper}
theorem AF {id:Nat} {s:St} (h:Eu tb ops.toList=true):exec tb (n+1) (.region id ops true) s=(dY tb (exec tb n) ops.toList ops.toList s).bind fun(e,s)=>match e with
 | .nrm=>.ok (.nrm,s)
 |_=>.no 312:=by
 have h':gU tb ops.toList= .ok []:=by
  unfold Eu at h;split at h
  ·assumption
  ·cases h
 show((gU tb ops.toList).bind fun fl=>(dX tb (exec tb n) ops.toList fl ops.toList 0 [] [] [] s).bind fun(e,s)=>_)=_;rw [h'];simp only [R.aw,FB];rfl
theorem Bm (s:St) (v:Value) (k:St→R (Ex×St)):bR s none v k=k s:=rfl
variable {t:T Value} {i:Nat} {v:Value}
theorem Bn {d:List Nat} {m:Mem} {ro:Option Nat} {k:St→R (Ex×St)} (h:i<n):bR ⟨t,n,d,m,ro⟩ (some i) v k=k ⟨t.set i v,n,d,m,ro⟩:=by
 rw [JQ (by simpa using h)];rfl
theorem M0 (b:Nat):Way.ptr.at b= .pointer (some ⟨b,0,none⟩):=rfl
theorem wK (b len cap:Nat):(Way.mO len cap).at b= .slice (some ⟨b,0,none⟩) len cap:=rfl
theorem yO {ops l:List Oper} {o:Oper} {s:St} (h:fu ops o s.t= .ok true):dY tb ih ops (o::l) s=dL tb ih o s (dY tb ih ops l):=by
 show((fu ops o s.t).bind fun w=>bif w then dL tb ih o s (dY tb ih ops l) else bR s o.dst bL (dY tb ih ops l))=_;rw [h];rfl
theorem Bv {ops l:List Oper} {o:Oper} {s:St} (h:fu ops o s.t= .ok false):dY tb ih ops (o::l) s=bR s o.dst bL (dY tb ih ops l):=by
 show((fu ops o s.t).bind fun w=>bif w then dL tb ih o s (dY tb ih ops l) else bR s o.dst bL (dY tb ih ops l))=_;rw [h];rfl
def Gj (want:Bool) (v:Option Value):R Bool:=
 match v with
 |some (.bool b)=>.ok (bif b then want else !want)
 |some (.tuple _)=>.ok false
 |some _=>.no 257
 |none=>.no 253
def xj:List Oper→Nat→Option Tmp
 | [],_=>none
 |o::_,0=>o.dst
 |_::l,n+1=>xj l n
theorem xq (o:Oper) (l:List Oper):xj (o::l) 0=o.dst:=rfl
theorem xp (o:Oper) (l:List Oper) (n:Nat):xj (o::l) (n+1)=xj l n:=rfl
theorem Ev:∀(l:List Oper) (j:Nat) (d:Tmp),xj l j=some d→∃o,l[j]?=some o∧o.dst=some d
 | [],_,_,h=>by cases h
 |o::_,0,_,h=>⟨o,rfl,h⟩
 |_::l,n+1,d,h=>by
  obtain⟨o,h1,h2⟩:=Ev l n d h;exact⟨o,by simpa using h1,h2⟩
def QA (ops:List Oper) (o:Oper) (want:Bool) (t:T Value) (d:Option Tmp):R Bool:=
 match d with
 |some d=>Gj want (t.get d)
 |none=>fu ops o t
theorem uX (ops:List Oper) (dst:Option Tmp) (op:Op) (ty:TypeId) (pos:String) (after:Array Edge) (j:Nat) (want:Bool) (t:T Value):
 fu ops {dst,op,type:=ty,pos,after,guard:=some (j,want)} t=QA ops {dst,op,type:=ty,pos,after,guard:=some (j,want)} want t (xj ops j):=by
 cases hd:xj ops j with
 |none=>rfl
 |some d=>
  obtain⟨o,h1,h2⟩:=Ev ops j d hd;unfold fu QA Gj;simp only [h1,h2];rfl
theorem zu (ops:List Oper) (o:Oper) (want:Bool) (t:T Value) (d:Tmp):QA ops o want t (some d)=Gj want (t.get d):=rfl
theorem zw (want b:Bool):Gj want (some (.bool b))= .ok (bif b then want else !want):=rfl
theorem zx (want:Bool) (x:Array Value):Gj want (some (.tuple x))= .ok false:=rfl
def ZW (v:Option Value):R Value:=
 match v with
 |some v=>.ok v
 |none=>.no 200
theorem jk (t:T Value) (i:Nat):ev t (.tmp i)=ZW (t.get i):=rfl
theorem fe (v:Value):ZW (some v)= .ok v:=rfl
theorem NN (t:T Value) (k:IntKind) (n:Nat):ev t (.const (.int k (no_index (OfNat.ofNat n))))= .ok (.int k ((OfNat.ofNat n:Nat):Int)):=rfl
theorem I7 (t:T Value) (b:Bool):ev t (.const (.bool b))= .ok (.bool b):=rfl
theorem Ec {op:BinOp} {d:Option TypeDesc} {k:IntKind} {a b:Int} (h1:op≠ .shl) (h2:op≠ .shr):iM op d (.int k a) (.int k b)=aM op k a b:=by
 have hk:eD k k=true:=by cases k<;>rfl
 unfold iM;cases op<;>first|exact absurd rfl h1|exact absurd rfl h2|(simp only [hk,cond_true])
variable {b:Nat}
theorem Dk {k:IntKind} {a:Nat} (h:0<b):aM .rem k (a:Int) (b:Int)= .ok (.int k ((a % b:Nat):Int)):=by
 obtain⟨c,rfl⟩:∃c,b=c+1:=⟨b-1,by omega⟩;rfl
theorem pL (h:n<4294967296):iy .u32 (n:Int)=true:=by
 show qax n 4294967296=true;rw [qaH];exact h
theorem jm (h:n<256):iy .u8 (n:Int)=true:=by
 show qax n 256=true;rw [qaH];exact h
theorem aV (h:n<9223372036854775808):iy .i64 (n:Int)=true:=by
 show qax n 9223372036854775808=true;rw [qaH];exact h
theorem yq {a:Nat} (h:0<b) (ha:a<4294967296):aM .quo .u32 (a:Int) (b:Int)= .ok (.int .u32 (a/b:Nat)):=by
 obtain⟨c,rfl⟩:∃c,b=c+1:=⟨b-1,by omega⟩;show R.ok (Value.int .u32 (dm .u32 ((a/(c+1):Nat):Int)))=_;unfold dm;rw [pL (qbj (Nat.div_le_self ..) ha)];rfl
theorem yz {a:Nat} (ha:a<4294967296) (hb:b<4294967296):aM .xor .u32 (a:Int) (b:Int)= .ok (.int .u32 (a^^^b:Nat)):=by
 show(bif iy .u32 (a:Int)&&iy .u32 (b:Int) then R.ok (Value.int .u32 (a^^^b:Nat)) else .no 12)=_;rw [pL ha,pL hb];rfl
theorem O1 {k:IntKind} {a:Nat}:aM .neq k (a:Int) (b:Int)= .ok (.bool (decide (a≠b))):=by
 show R.ok (Value.bool (!qaw a b))=_;congr 2;cases h:qaw a b with
 |true=>simp [qaL h]
 |false=>simp [qdL h]
theorem HW {k:IntKind} {a:Nat}:aM .lss k (a:Int) (b:Int)= .ok (.bool (decide (a<b))):=by
 show R.ok (Value.bool (qax a b))=_;congr 2;rw [qbK];simp [qaH]
theorem yi {a:Nat} (h:a+b<9223372036854775808):aM .add .i64 (a:Int) (b:Int)= .ok (.int .i64 (a+b:Nat)):=by
 show R.ok (Value.int .i64 (dm .i64 ((a+b:Nat):Int)))=_;unfold dm;rw [aV h];rfl
end
section
variable {tb:bO} {ih:Code→St→R (Ex×St)}
theorem pn (n:Nat):dm .u8 (n:Int)=((n % 256:Nat):Int):=by
 rw [eT];simp [IntKind.wrap,IntKind.signed,IntKind.bits]
theorem uf (n:Nat):dm .u32 (n:Int)=((n % 4294967296:Nat):Int):=by
 rw [eT];simp [IntKind.wrap,IntKind.signed,IntKind.bits]
variable {n:Nat}
theorem ue (h:n<9223372036854775808):dm .i64 (n:Int)=(n:Int):=by
 unfold dm;rw [aV h];rfl
theorem OO (h:n<256):n % 256=n:=qbL h
theorem De (h:n<4294967296):n % 4294967296=n:=qbL h
variable {b:Nat}
theorem Bg {a:Nat} (ha:a<256) (hb:b<256):aM .and .u8 (a:Int) (b:Int)= .ok (.int .u8 (a&&&b:Nat)):=by
 show(bif iy .u8 (a:Int)&&iy .u8 (b:Int) then R.ok (Value.int .u8 (a&&&b:Nat)) else .no 10)=_;rw [jm ha,jm hb];rfl
theorem Bh {a:Nat} (ha:a<256) (hb:b<256):aM .xor .u8 (a:Int) (b:Int)= .ok (.int .u8 (a^^^b:Nat)):=by
 show(bif iy .u8 (a:Int)&&iy .u8 (b:Int) then R.ok (Value.int .u8 (a^^^b:Nat)) else .no 12)=_;rw [jm ha,jm hb];rfl
theorem yx {a:Nat} (h:b≤a) (ha:a<4294967296):aM .sub .u32 (a:Int) (b:Int)= .ok (.int .u32 (a-b:Nat)):=by
 show R.ok (Value.int .u32 (dm .u32 ((a:Int)-(b:Int))))=_;rw [show(a:Int)-(b:Int)=((a-b:Nat):Int) by omega,uf,De (by omega)]
theorem yu {a:Nat} (h:b≤a) (ha:a<9223372036854775808):aM .sub .i64 (a:Int) (b:Int)= .ok (.int .i64 (a-b:Nat)):=by
 show R.ok (Value.int .i64 (dm .i64 ((a:Int)-(b:Int))))=_;rw [show(a:Int)-(b:Int)=((a-b:Nat):Int) by omega,ue (by omega)]
theorem O0 {k:IntKind} {a:Nat}:aM .eql k (a:Int) (b:Int)= .ok (.bool (decide (a=b))):=by
 show R.ok (Value.bool (qaw a b))=_;congr 2;cases h:qaw a b with
 |true=>simp [qaL h]
 |false=>simp [qdL h]
theorem yo (h:n<4294967296):WT .xor (.int .u32 n)= .ok (.int .u32 (4294967295-n:Nat)):=by
 show(bif IntKind.signed .u32 then R.no 26 else bif iy .u32 (n:Int) then R.ok (Value.int .u32 (.ofNat (2^IntKind.bits .u32-1-n))) else .no 26)=_;rw [pL h];rfl
variable {k':IntKind}
theorem Ed {d:Option TypeDesc} {k:IntKind} {a:Nat} (h:b<k.bits):iM .shr d (.int k (a:Int)) (.int k' (b:Int))= .ok (.int k ((a>>>b:Nat):Int)):=by
 have e:iM .shr d (.int k (a:Int)) (.int k' (b:Int))=R.ok (Value.int k (.ofNat (Nat.shiftRight a (bif qax b k.bits then b else k.bits)))):=by cases k<;>rfl
 rw [e];have:qax b k.bits=true:=by rw [qaH];exact h
 rw [this];rfl
theorem rB {d:Option TypeDesc} {a:Nat} (h:b<32):iM .shr d (.int .u32 a) (.int k' (b:Int))= .ok (.int .u32 (a>>>b:Nat)):=Ed h
theorem uj {d:Option TypeDesc} {a:Nat} (h:b<8):iM .shr d (.int .u8 a) (.int k' (b:Int))= .ok (.int .u8 (a>>>b:Nat)):=Ed h
theorem yn {a:Nat} (h:a*b<9223372036854775808):aM .mul .i64 (a:Int) (b:Int)= .ok (.int .i64 (a*b:Nat)):=by
 show R.ok (Value.int .i64 (dm .i64 ((a:Int)*(b:Int))))=_;rw [←Int.natCast_mul,ue h]
theorem yw {a:Nat} (h:a<b) (hb:b<9223372036854775808):aM .sub .i64 (a:Int) (b:Int)= .ok (.int .i64 (-((b-a:Nat):Int))):=by
 show R.ok (Value.int .i64 (dm .i64 ((a:Int)-(b:Int))))=_;rw [show(a:Int)-(b:Int)=-((b-a:Nat):Int) by omega,eT,lV (by show(-9223372036854775808:Int)≤_;omega) (by show _≤(9223372036854775807:Int);omega)]
theorem ym {k:IntKind} {a:Nat} (h:0<a):aM .lss k (-(a:Int)) (b:Int)= .ok (.bool true):=by
 obtain⟨c,rfl⟩:∃c,a=c+1:=⟨a-1,by omega⟩;rfl
theorem sU {a b:List UInt8} (h:a.length+b.length<4611686018427387904):fb .add a b= .ok (aj (a++b)):=by
 unfold fb;have:qax (a.length+b.length) 4611686018427387904=true:=by rw [qaH];exact h
 simp only [this,cond_true]
theorem Kc {a b:List UInt8}:fb .neq a b= .ok (.bool (decide (a≠b))):=by
 unfold fb;simp only [di];congr 2;by_cases h:a=b<;>simp [h]
theorem Kb {a b:List UInt8}:fb .eql a b= .ok (.bool (decide (a=b))):=by
 unfold fb;simp only [di];congr 2;by_cases h:a=b<;>simp [h]
variable {d:Nat}
theorem fA {k:IntKind} {most:Nat} (h:n≤most):bound (some (.int k (n:Int))) d most= .ok n:=by
 unfold bound;show(bif qaq n most then R.ok n else .no 31)=_;rw [qbd h];rfl
theorem eX {most:Nat}:bound none d most= .ok d:=rfl
theorem BI {tb:bO} {t:TypeId} {l:List UInt8} {lo hi:Option Value} {a:Nat} (ht:tb.ba t=some .string) (h1:bound hi l.length l.length= .ok b) (h2:bound lo 0 b= .ok a):c6 tb t (aj l) lo hi none= .ok (aj ((l.take b).drop a)):=by
 unfold c6 aj;simp only [ht,h1,h2,R.aw]
theorem mP {tb:bO} {t:TypeId} {l:List UInt8} {k:IntKind} (ht:tb.ba t=some .string) (h:n≤l.length):c6 tb t (aj l) none (some (.int k (n:Int))) none= .ok (aj (l.take n)):=by
 rw [BI ht (fA h) eX];rfl
theorem It {tb:bO} {t:TypeId} {l:List UInt8} {k:IntKind} (ht:tb.ba t=some .string) (h:n≤l.length):c6 tb t (aj l) (some (.int k (n:Int))) none none= .ok (aj (l.drop n)):=by
 rw [BI ht eX (fA h),qaR]
variable {i:Nat}
theorem dQ {t:TypeId} {l:List UInt8} {kd:IntKind} (ht:tb.ba t=some .string) (h:i<l.length):nf tb t (aj l) (.int kd (i:Int))= .ok (.int .u8 ((l.getD i 0).toNat:Nat)):=by
 unfold nf aj;simp only [ht];show(match l[i]? with|some b=>R.ok (Value.int .u8 (.ofNat b.toNat))|none=>.no 53)=_;rw [qan h];simp [List.getD,qan h]
theorem cP {t:TypeId} {l:List UInt8} (ht:tb.ba t=some .string):aN tb .len [t] [aj l]= .ok (.int .i64 (l.length:Nat)):=by
 unfold aN E7 aj;simp only [ht];rfl
theorem Ck (b:UInt8):b.toNat<256:=b.toNat_lt
theorem NP (t:T Value) (s:ByteArray):ev t (.const (.string s))= .ok (aj s.data.toList):=rfl
theorem Ee {op:BinOp} {d:Option TypeDesc} {a b:List UInt8}:iM op d (aj a) (aj b)=fb op a b:=rfl
def sub:Code→List Nat→Code
 | .seq a b,i::l=>bif qaw i 0 then sub a l else sub b l
 | .cond _ a b,i::l=>bif qaw i 0 then sub a l else sub b l
 | .block _ c,_::l=>sub c l
 | .loop c,_::l=>sub c l
 | .scope c,_::l=>sub c l
 | .rangeFunc _ _ a b,i::l=>bif qaw i 0 then sub a l else sub b l
 |c,_=>c
theorem Kf (c:Code):sub c []=c:=by cases c<;>rfl
theorem F' (a b:Code) (l:List Nat):sub (.seq a b) (0::l)=sub a l:=rfl
theorem Ga (a b:Code) (l:List Nat):sub (.seq a b) (1::l)=sub b l:=rfl
theorem BM (x:Operand) (a b:Code) (l:List Nat):sub (.cond x a b) (0::l)=sub a l:=rfl
theorem BN (x:Operand) (a b:Code) (l:List Nat):sub (.cond x a b) (1::l)=sub b l:=rfl
theorem BL (i:Nat) (c:Code) (l:List Nat):sub (.block i c) (0::l)=sub c l:=rfl
theorem F_ (c:Code) (l:List Nat):sub (.loop c) (0::l)=sub c l:=rfl
theorem BO (c:Code) (l:List Nat):sub (.scope c) (0::l)=sub c l:=rfl
theorem zi (f:Operand) (ps:Array Tmp) (a b:Code) (l:List Nat):sub (.rangeFunc f ps a b) (0::l)=sub a l:=rfl
theorem zj (f:Operand) (ps:Array Tmp) (a b:Code) (l:List Nat):sub (.rangeFunc f ps a b) (1::l)=sub b l:=rfl
theorem rX (n:Nat):qaw n n=true:=by simp
theorem nj {tb:bO} {ts:List TypeId} {a:Nat}:aN tb .min ts [.int .i64 a,.int .i64 b]= .ok (.int .i64 (min a b:Nat)):=by
 have e:aN tb .min ts [.int .i64 a,.int .i64 b]= .ok (.int .i64 (bif qax b a then(b:Int) else(a:Int))):=by
  cases ts<;>rfl
 rw [e];cases h:qax b a with
 |true=>
  have:b<a:=by simpa [qaH] using h
  rw [qc6 (by omega)];rfl
 |false=>
  have:¬b<a:=by intro hx;rw [←qaH,h] at hx;cases hx
  rw [qbr (by omega)];rfl
theorem M7 {a b:Bool}:iM .eql (some .bool) (.bool a) (.bool b)= .ok (.bool (a==b)):=by cases a<;>cases b<;>rfl
theorem yp {a:Nat} (h:0<b) (ha:a<9223372036854775808):aM .quo .i64 (a:Int) (b:Int)= .ok (.int .i64 (a/b:Nat)):=by
 obtain⟨c,rfl⟩:∃c,b=c+1:=⟨b-1,by omega⟩;show R.ok (Value.int .i64 (dm .i64 ((a/(c+1):Nat):Int)))=_;rw [ue (qbj (Nat.div_le_self ..) ha)]
theorem yl {a:Nat} (ha:a<4294967296) (hb:b<4294967296):aM .and .u32 (a:Int) (b:Int)= .ok (.int .u32 (a&&&b:Nat)):=by
 show(bif iy .u32 (a:Int)&&iy .u32 (b:Int) then R.ok (Value.int .u32 (a&&&b:Nat)) else .no 10)=_;rw [pL ha,pL hb];rfl
theorem ui {d:Option TypeDesc} {a:Nat} (h:b<8):iM .shl d (.int .u8 a) (.int k' (b:Int))= .ok (.int .u8 (a<<<b % 256:Nat)):=by
 have e:iM .shl d (.int .u8 a) (.int k' (b:Int))=(bif qax b 8 then R.ok (Value.int .u8 (dm .u8 ((a<<<b:Nat):Int))) else .ok (.int .u8 0)):=rfl;have hb:qax b 8=true:=by rw [qaH];exact h
 rw [e,hb,cond_true,pn]
variable {fn:Func} {A A':Mem} {v:Value}
theorem cr {f:FuncId} {c:Code} {h:List Value→Mem→R (Value×Mem)} {args:List Value} (hf:tb.fn.get f=some fn) (hn:(fn.name== "runtime.NumGoroutine")=false) (hb:fn.body=some c)
 (hk:tb.hk.get f=some h) (hv:h args A= .ok (v,A')):bA tb ih (.fn f args) A= .ok (.val v A'):=by
 unfold bA;simp only [hf,hn,hb,hk,hv,cond_false,R.aw]
end
section
variable {tb:bO}
def W (tb:bO) (c:Code) (s:St) (K:Ex→St→Prop):Prop:=∃e s',(∃f,∀m,exec tb (m+f) c s= .ok (e,s'))∧K e s'
theorem W.run {c:Code} {s:St} {K:Ex→St→Prop} (f:Nat) {e:Ex} {s':St} (h:∀m,exec tb (m+f) c s= .ok (e,s')) (k:K e s'):W tb c s K:=⟨e,s',⟨f,h⟩,k⟩
theorem W.mono {c:Code} {s:St} {K K':Ex→St→Prop} (h:W tb c s K) (hk:∀e s',K e s'→K' e s'):W tb c s K':=by
 obtain⟨e,s',h1,h2⟩:=h;exact⟨e,s',h1,hk _ _ h2⟩
def W6 (tb:bO) (b:Code) (K:Ex→St→Prop) (e:Ex) (s:St):Prop:=
 match e with
 | .nrm=>W tb b s K
 |e=>K e s
theorem W.seq {a b:Code} {s:St} {K:Ex→St→Prop} (h:W tb a s (W6 tb b K)):W tb (.seq a b) s K:=by
 obtain⟨e,s1,⟨f,h1⟩,h2⟩:=h;cases e with
 |nrm=>
  obtain⟨e2,s2,⟨g,h3⟩,h4⟩:=h2;refine⟨e2,s2,⟨f+g+1,fun m=>?_⟩,h4⟩;have e1:=h1 (m+g);have e2':=h3 (m+f);rw [show m+(f+g+1)=(m+g+f)+1 by omega,rO,e1,R.aw];show exec tb (m+g+f) b s1=_;rw [show m+g+f=m+f+g by omega];exact e2'
 |_=>exact⟨_,s1,⟨f+1,fun m=>by rw [show m+(f+1)=(m+f)+1 by omega,rO,h1];rfl⟩,h2⟩
def ZS (id:Nat) (K:Ex→St→Prop) (e:Ex) (s:St):Prop:=
 match e with
 | .exit i=>if i=id then K .nrm s else K (.exit i) s
 |e=>K e s
theorem W.block {id:Nat} {c:Code} {s:St} {K:Ex→St→Prop} (h:W tb c s (ZS id K)):W tb (.block id c) s K:=by
 obtain⟨e,s1,⟨f,h1⟩,h2⟩:=h;cases e with
 |exit i=>
  unfold ZS at h2;simp only at h2;by_cases hi:i=id
  ·subst hi;rw [if_pos rfl] at h2;exact⟨.nrm,s1,⟨f+1,fun m=>by rw [show m+(f+1)=(m+f)+1 by omega,jQ,h1];simp [R.aw]⟩,h2⟩
  ·rw [if_neg hi] at h2;have hb:qaw i id=false:=by
    cases hq:qaw i id with
    |false=>rfl
    |true=>exact absurd (qaL hq) hi
   exact⟨.exit i,s1,⟨f+1,fun m=>by rw [show m+(f+1)=(m+f)+1 by omega,jQ,h1];simp [R.aw,hb]⟩,h2⟩
 |_=>exact⟨_,s1,⟨f+1,fun m=>by rw [show m+(f+1)=(m+f)+1 by omega,jQ,h1];rfl⟩,h2⟩
theorem W.scope {c:Code} {s:St} {K:Ex→St→Prop} (h:W tb c s K):W tb (.scope c) s K:=by
 obtain⟨e,s1,⟨f,h1⟩,h2⟩:=h;exact⟨e,s1,⟨f+1,fun m=>by rw [show m+(f+1)=(m+f)+1 by omega,qQ,h1]⟩,h2⟩
theorem W.cond {c:Operand} {a b:Code} {s:St} {K:Ex→St→Prop} {p:Bool} (hp:ev s.t c= .ok (.bool p)) (ha:p=true→W tb a s K) (hb:p=false→W tb b s K):W tb (.cond c a b) s K:=by
 cases p with
 |true=>
  obtain⟨e,s1,⟨f,h1⟩,h2⟩:=ha rfl;exact⟨e,s1,⟨f+1,fun m=>by rw [show m+(f+1)=(m+f)+1 by omega,pE,hp,R.aw];exact h1 m⟩,h2⟩
 |false=>
  obtain⟨e,s1,⟨f,h1⟩,h2⟩:=hb rfl;exact⟨e,s1,⟨f+1,fun m=>by rw [show m+(f+1)=(m+f)+1 by omega,pE,hp,R.aw];exact h1 m⟩,h2⟩
theorem W.round {c:Code} {s:St} {K:Ex→St→Prop} (h:W tb c s (W6 tb (.loop c) K)):W tb (.loop c) s K:=by
 obtain⟨e,s1,⟨f,h1⟩,h2⟩:=h;cases e with
 |nrm=>
  obtain⟨e2,s2,⟨g,h3⟩,h4⟩:=h2;refine⟨e2,s2,⟨f+g+1,fun m=>?_⟩,h4⟩;rw [show m+(f+g+1)=(m+g+f)+1 by omega,pF,h1,R.aw];show exec tb (m+g+f) (.loop c) s1=_;rw [show m+g+f=m+f+g by omega];exact h3 (m+f)
 |_=>exact⟨_,s1,⟨f+1,fun m=>by rw [show m+(f+1)=(m+f)+1 by omega,pF,h1];rfl⟩,h2⟩
theorem W.loop {c:Code} {K:Ex→St→Prop} (P:St→Prop) (μ:St→Nat) (hb:∀s,P s→W tb c s fun e s'=>match e with
 | .nrm=>P s'∧μ s'<μ s
 |e=>K e s'):∀{s:St},P s→W tb (.loop c) s K:=by
 have main:∀n s,μ s=n→P s→W tb (.loop c) s K:=by
  intro n
  induction n using qcL with
  |ind n ih=>
   intro s hn hp;obtain⟨e,s1,⟨f,h1⟩,h2⟩:=hb s hp;cases e with
   |nrm=>
    obtain⟨e2,s2,⟨g,h3⟩,h4⟩:=ih _ (by rw [←hn];exact h2.2) s1 rfl h2.1;refine⟨e2,s2,⟨f+g+1,fun m=>?_⟩,h4⟩;have e1:=h1 (m+g);rw [show m+(f+g+1)=(m+g+f)+1 by omega,pF,e1,R.aw];show exec tb (m+g+f) (.loop c) s1=_;rw [show m+g+f=m+f+g by omega];exact h3 (m+f)
   |_=>exact⟨_,s1,⟨f+1,fun m=>by rw [show m+(f+1)=(m+f)+1 by omega,pF,h1];rfl⟩,h2⟩
 exact fun {s} hp=>main _ s rfl hp
def jt (tb:bO) (f:FuncId) (args:List Value) (A:Mem) (v:Value) (A':Mem):Prop:=∃n,call tb n f args A= .ok (.val v A')
variable {fn:Func} {A:Mem}
theorem tu {f:FuncId} {c:Code} {args:List Value} {Q:Value→Mem→Prop} (hf:tb.fn.get f=some fn) (hb:fn.body=some c) (hn:args.length≤fn.ntmps)
 (h:W tb c ⟨T.bK .e 0 args,fn.ntmps,[],A,none⟩ fun e s=>(e= .nrm∨e= .ret)∧∃A' vs,eW s.d s.m= .ok A'∧eV tb s.t A'.get fn.results.toList= .ok vs∧Q (oneOf vs) A'):
 ∃v A',jt tb f args A v A'∧Q v A':=by
 obtain⟨e,s1,⟨g,h1⟩,he,A',vs,h2,h3,h4⟩:=h;refine⟨_,A',⟨g,?_⟩,h4⟩;unfold call;simp only [hf,hb];unfold mo;have hb:qaq args.length fn.ntmps=true:=by rw [qdm];exact hn
 rw [hb,cond_true];have:=h1 0;rw [qa1] at this;rw [this,R.aw];rcases he with rfl|rfl<;>simp only [h2,h3,R.aw]
theorem wZ {f:FuncId} {c:Code} {args:List Value} {Q:Value→Mem→Prop} (hf:tb.fn.get f=some fn) (hb:fn.body=some c) (hn:args.length≤fn.ntmps) (hnm:(fn.name== "runtime.NumGoroutine")=false) (hk:tb.hk.get f=none)
 (h:W tb c ⟨T.bK .e 0 args,fn.ntmps,[],A,none⟩ fun e s=>(e= .nrm∨e= .ret)∧∃A' vs,eW s.d s.m= .ok A'∧eV tb s.t A'.get fn.results.toList= .ok vs∧Q (oneOf vs) A'):
 ∃v A',(∃g,∀m,bA tb (exec tb (m+g)) (.fn f args) A= .ok (.val v A'))∧Q v A':=by
 obtain⟨e,s1,⟨g,h1⟩,he,A',vs,h2,h3,h4⟩:=h;refine⟨_,A',⟨g,fun m=>?_⟩,h4⟩;unfold bA;simp only [hf,hb,hnm,hk,cond_false];unfold mo;have hb:qaq args.length fn.ntmps=true:=by rw [qdm];exact hn
 rw [hb,cond_true,h1,R.aw];rcases he with rfl|rfl<;>simp only [h2,h3,R.aw]
end
section
variable {tb:bO}
theorem fq {α:Type} (t:T α):∀(n i:Nat) (l:List α),l.length=n→(∀j,j<n→t.get (i+j)=l[j]?)→t.iu n i=some l
 |0,i,l,hl,_=>by
  have:l=[]:=qaP.1 hl;rw [this];rfl
 |n+1,i,[],hl,_=>by simp at hl
 |n+1,i,x::l,hl,h=>by
  rw [T.AQ];have h0:=h 0 (by omega);simp only [qa8,qau] at h0;have ht:t.iu n (i+1)=some l:=fq t n (i+1) l (by simpa using hl) fun j hj=>by
   have:=h (j+1) (by omega);rw [show i+1+j=i+(j+1) by omega,this];simp
  rw [h0,ht]
theorem K7 {α:Type} (l:List α):(T.bK .e 0 l).iu l.length 0=some l:=
 fq _ _ _ _ rfl fun j hj=>by
  rw [T.dW,qa1,if_pos (by omega)];simp
theorem iQ:∀(l:List UInt8),bytesOf (l.map eo)= .ok l
 | []=>rfl
 |b::l=>by
  show(bytesOf (l.map eo)).bind (fun r=>R.ok (qbD b.toNat::r))=_;rw [iQ l,R.aw];simp
def Bytes (A:Mem) (b:Nat) (e:TypeId) (k:Kd) (l:List UInt8):Prop:=A.get b=some (.cells e k 0 (T.bK .e 0 (l.map eo)))
variable {A:Mem} {b:Nat}
theorem m7 {e:TypeId} {k:Kd} {l:List UInt8} (h:Bytes A b e k l):c9 A.get 1 l.length (some ⟨b,0,none⟩)= .ok (l.map eo):=by
 unfold c9;simp only [qb2];cases hn:qaw l.length 0 with
 |true=>
  have:l=[]:=qaP.1 (qaL hn);subst this;rfl
 |false=>
  have h':A.get b=_:=h;have hg:(T.bK .e 0 (l.map eo)).iu l.length 0=some (l.map eo):=by
   have:=K7 (l.map eo);rwa [qas] at this
  simp only [cond_false,h',hg]
variable {c:Nat}
theorem sV {e:TypeId} {k:Kd} {l:List UInt8} {s d:TypeId} (h1:tb.ba s=some (.slice e)) (h2:tb.ba d=some .string) (h3:tb.ba e=some (.int .u8)) (h:Bytes A b e k l):
 df tb A.get s d (.slice (some ⟨b,0,none⟩) l.length c)= .ok (aj l):=by
 unfold df;simp only [h1,h2,h3,iB,m7 h,R.aw,iQ]
theorem Co {l:List UInt8} {s d e:TypeId} (h1:tb.ba s=some .string) (h2:tb.ba d=some (.slice e)) (h3:tb.ba e=some (.int .u8)) (hl:l.length<4294967296):
 ku tb s d (aj l)= .ok (.cells e .mark 0 (T.bK .e 0 (l.map eo)),.mO l.length (fQ l.length 1)):=by
 unfold ku aj;have:qax l.length 4294967296=true:=by rw [qaH];exact hl
 simp only [h1,h2,h3,this,cond_true]
theorem iO {v:Nat} (h:v<256):Value.int .u8 v=eo (qbD v):=by
 unfold eo;have e:(qbD v).toNat=v:=by rw [qep];exact qbL h
 rw [e];rfl
theorem ax (A:Mem) (o:Ob):(A.alloc o).get A.next=some o:=by rw [cQ,if_pos rfl]
theorem aB {o:Ob} {x:Nat} (h:x≠A.next):(A.alloc o).get x=A.get x:=by rw [cQ,if_neg h]
theorem D9 {st xt e:TypeId} {i:TypeInfo} {b2:Nat} {k:Kd} {l:List UInt8} {v:Nat} (hst:tb.ba st=some (.slice e)) (hxt:tb.ba xt=some (.slice e)) (hz:cm tb e= .ok (1,[.int .u8 0])) (hi:tb.ty.get e=some i) (hib:i.bytes=1)
 (hl:l.length<16777216) (hk:k= .mark∨k= .row) (hb:Bytes A b e k l) (hb2:A.get b2=some (aa e [.int .u8 v])) (hv:v<256):
 bj tb A st xt (.slice (some ⟨b,0,none⟩) l.length (fQ l.length 1)) (.slice (some ⟨b2,0,none⟩) 1 2)=
  .ok (.slice (some ⟨A.next,0,none⟩) (l.length+1) (fQ (l.length+1) 1),(A.set b .dead).alloc (.cells e k 0 (T.bK .e 0 ((l++[qbD v]).map eo)))):=by
 have he1:(1:Nat)<65536:=by omega
 have hnew:eN A.get 1 1 (.slice (some ⟨b2,0,none⟩) 1 2)= .ok [eo (qbD v)]:=by
  have hb3:Bytes A b2 e (.var 1) [qbD v]:=by
   show A.get b2=some (.cells e (.var 1) 0 (T.bK .e 0 [eo (qbD v)]));rw [hb2,iO hv];rfl
  exact m7 hb3
 have hble:qaq (l.length+1) (bJ (fQ l.length 1))=false:=by
  rw [cD he1];cases hq:qaq (l.length+1) l.length with
  |false=>rfl
  |true=>have:=qaG hq;omega
 have hlim:(qaq (l.length+1) 16777216&&qaq i.bytes 65536&&qax 0 i.bytes&&qax 0 1&&qax 1 65536)=true:=by
  have a1:qaq (l.length+1) 16777216=true:=qbd (by omega);rw [a1,hib];rfl
 have hb':A.get b=_:=hb;have hx:dN (fQ l.length 1)=false:=cX _ _;have he:qaw (gO (fQ l.length 1)) 1=true:=by rw [c7 he1];rfl
 have hfz:(qaq 0 (0+l.length*1)&&(qaw e e&&qax 0 9223372036854775808))=true:=by
  have h0:qax 0 9223372036854775808=true:=by rw [qaH];omega
  rw [h0];simp
 unfold bj cO;simp only [hst,hxt,eP,cond_false,hz,R.aw,gP,hnew,hble,hi,hlim,cond_true,m7 hb,hx,he,qet,List.all_nil,eo,aJ,qci,hb',hfz];rcases hk with rfl|rfl<;>simp [eo]
variable {o i:Nat}
theorem l_ {t elem:TypeId} {len:Nat} {k:IntKind} (hu:tb.ba t=some (.array len elem)) (hs:aR tb elem= .ok 1) (h:i<len):
 aU tb t (.pointer (some ⟨b,o,none⟩)) (.int k (i:Int))= .ok (.pointer (some ⟨b,o+i,none⟩)):=by
 have hb:qax i len=true:=by rw [qaH];exact h
 have hn:kU (.int k (i:Int))= .ok i:=rfl;unfold aU;simp only [hn,hu,hb,cond_true,hs,R.aw,h_,qb2]
variable {cap:Nat}
theorem ma {t elem:TypeId} {len:Nat} {k:IntKind} (hu:tb.ba t=some (.slice elem)) (hs:aR tb elem= .ok 1) (h:i<len):
 aU tb t (.slice (some ⟨b,o,none⟩) len cap) (.int k (i:Int))= .ok (.pointer (some ⟨b,o+i,none⟩)):=by
 have hb:qax i len=true:=by rw [qaH];exact h
 have hn:kU (.int k (i:Int))= .ok i:=rfl;unfold aU;simp only [hn,hu,hb,cond_true,hs,R.aw,h_,qb2]
variable {l:List Value} {v:Value}
theorem E9 {t e:TypeId} {d:TypeDesc} (hu:tb.ba t=some d) (ha:bQ d=false) (hg:A.get b=some (aa e l)) (hv:l[o]?=some v):
 ag tb A.get t (.pointer (some ⟨b,o,none⟩))= .ok v:=by
 have ho:o<l.length:=(qap.1 hv).1;have hc:(T.bK .e 0 l).get o=some v:=by
  rw [T.dW,if_pos (by omega),qbA];exact hv
 unfold ag;simp only [hg,aa,hu,ha,cond_false,hc]
variable {B:Mem}
theorem Lo {t:TypeId} (h:A.get b=B.get b):ag tb A.get t (.pointer (some ⟨b,o,none⟩))=ag tb B.get t (.pointer (some ⟨b,o,none⟩)):=by
 unfold ag;simp only [h]
variable {n:Nat}
theorem eu {t e:TypeId} {a:Option Addr} (hu:tb.ba t=some (.slice e)):aN tb .len [t] [.slice a n c]= .ok (.int .i64 (n:Nat)):=by
 unfold aN E7;simp only [hu];rfl
end
section
variable {tb:bO}
def YX (A:Mem) (b:Nat) (e:TypeId) (k:Kd) (l:List UInt8):Prop:=∃c,A.get b=some (.cells e k 0 c)∧∀i,i<l.length→c.get i=(l.map eo)[i]?
variable {A:Mem} {b:Nat}
theorem Hp {e:TypeId} {k:Kd} {l:List UInt8} (h:YX A b e k l):c9 A.get 1 l.length (some ⟨b,0,none⟩)= .ok (l.map eo):=by
 obtain⟨c,h1,h2⟩:=h;unfold c9;simp only [qb2];cases hn:qaw l.length 0 with
 |true=>
  have:l=[]:=qaP.1 (qaL hn);subst this;rfl
 |false=>
  have hg:c.iu l.length 0=some (l.map eo):=fq _ _ _ _ (by simp) fun j hj=>by rw [qa1];exact h2 j hj
  simp only [cond_false,h1,hg]
variable {c:Nat}
theorem zh {e:TypeId} {k:Kd} {l:List UInt8} {s d:TypeId} (h1:tb.ba s=some (.slice e)) (h2:tb.ba d=some .string) (h3:tb.ba e=some (.int .u8)) (h:YX A b e k l):
 df tb A.get s d (.slice (some ⟨b,0,none⟩) l.length c)= .ok (aj l):=by
 unfold df;simp only [h1,h2,h3,iB,Hp h,R.aw,iQ]
end
section
variable {tb:bO} {ih:Code→St→R (Ex×St)}
def Sl (t:T Value):List (Nat×Value)→Prop
 | []=>True
 |p::l=>t.get p.1=some p.2∧Sl t l
theorem QL (t:T Value) (i:Nat) (v:Value) (l:List (Nat×Value)):Sl t ((i,v)::l)=(t.get i=some v∧Sl t l):=rfl
theorem Ug (t:T Value):Sl t []=True:=rfl
theorem W.cN {c:Code} {s:St} {K:Ex→St→Prop} (g f:Nat) {e:Ex} {s':St} (h:∀M,g≤M→exec tb (M+f) c s= .ok (e,s')) (k:K e s'):W tb c s K:=
 ⟨e,s',⟨g+f,fun m=>by rw [←qck];exact h _ (Nat.le_add_left _ _)⟩,k⟩
variable {n:Nat} {t:T Value} {A:Mem}
theorem W.up {c:Code} {d:List Nat} {ro:Option Nat} {K:Ex→St→Prop} (N:Nat) (P:Nat→T Value→Mem→Prop)
 (hb:∀k t A,k≤N→P k t A→W tb c ⟨t,n,d,A,ro⟩ fun e s'=>match e with
  | .nrm=>k<N∧∃t' A',s'=⟨t',n,d,A',ro⟩∧P (k+1) t' A'
  |e=>K e s') {k:Nat} (hk:k≤N) (hp:P k t A):W tb (.loop c) ⟨t,n,d,A,ro⟩ K:=by
 have main:∀j k t A,k+j=N→P k t A→W tb (.loop c) ⟨t,n,d,A,ro⟩ K:=by
  intro j
  induction j with
  |zero=>
   intro k t A hk hp;refine W.round ((hb k t A (by omega) hp).mono fun e s' h=>?_);cases e with
   |nrm=>exact absurd h.1 (by omega)
   |_=>exact h
  |succ j ih=>
   intro k t A hk hp;refine W.round ((hb k t A (by omega) hp).mono fun e s' h=>?_);cases e with
   |nrm=>
    obtain⟨_,t',A',rfl,h'⟩:=h;exact ih (k+1) t' A' (by omega) h'
   |_=>exact h
 exact main (N-k) k t A (by omega) hp
def bg (tb:bO) (f:FuncId) (args:List Value) (A:Mem) (v:Value) (A':Mem):Prop:=∃g,∀M,g≤M→bA tb (exec tb M) (.fn f args) A= .ok (.val v A')
variable {fn:Func}
theorem eL {f:FuncId} {c:Code} {args:List Value} {Q:Value→Mem→Prop} (hf:tb.fn.get f=some fn) (hb:fn.body=some c) (hn:args.length≤fn.ntmps) (hnm:(fn.name== "runtime.NumGoroutine")=false) (hk:tb.hk.get f=none)
 (h:W tb c ⟨T.bK .e 0 args,fn.ntmps,[],A,none⟩ fun e s=>(e= .nrm∨e= .ret)∧∃A' vs,eW s.d s.m= .ok A'∧eV tb s.t A'.get fn.results.toList= .ok vs∧Q (oneOf vs) A'):
 ∃v A',bg tb f args A v A'∧Q v A':=by
 obtain⟨v,A',⟨g,h1⟩,h2⟩:=wZ hf hb hn hnm hk h;refine⟨v,A',⟨g,fun M hM=>?_⟩,h2⟩;have:=h1 (M-g);rwa [qce hM] at this
variable {A':Mem} {v:Value}
theorem Ag {f:FuncId} {c:Code} {args:List Value} (hf:tb.fn.get f=some fn) (hb:fn.body=some c) (hnm:(fn.name== "runtime.NumGoroutine")=false) (hk:tb.hk.get f=none) (h:bg tb f args A v A'):jt tb f args A v A':=by
 obtain⟨g,hg⟩:=h;refine⟨g,?_⟩;have h1:=hg g (qao _);unfold bA at h1;simp only [hf,hb,hnm,hk,cond_false] at h1;unfold call;simp only [hf,hb];exact h1
section
variable (dst:Option Tmp) (ty:TypeId) (pos:String) (after:Array Edge) (g:Option (Nat×Bool)) (s:St) (k:St→R (Ex×St))
theorem aY (f:FuncId) (a b:Array Operand):dL tb ih {dst,op:=.makeFunc (.func f) a b,type:=ty,pos,after,guard:=g} s k=
 (pC s.t a.toList).bind fun a=>(pC s.t b.toList).bind fun b=>bR s dst (.func (.func f) ⟨a⟩ ⟨b⟩) k:=by
 rw [jb _ _ _ _ _ _ _ rfl rfl];simp only [tQ,R.a7,R.aw]
def IZ (tb:bO) (ih:Code→St→R (Ex×St)) (fv:Value) (a:List Value) (A:Mem):R Gp:=(iG tb A.get fv a).bind fun cl=>bA tb ih cl A
theorem He (f:FuncId) (x y:List Value) (a:List Value) (A:Mem):IZ tb ih (.func (.func f) ⟨x⟩ ⟨y⟩) a A=bA tb ih (.fn f (x++a++y)) A:=rfl
theorem Em (l:Nat) (x y:Array Value) (a:List Value) (A:Mem):IZ tb ih (.func (.yield l) x y) a A=bA tb ih (.round l a) A:=rfl
theorem Lx (x:Nat) (args:Array Operand) (ts:Array TypeId):dL tb ih {dst,op:=.call {callee:=.value (.tmp x),args,argTypes:=ts},type:=ty,pos,after,guard:=g} s k=
 (pC s.t args.toList).bind fun a=>(ev s.t (.tmp x)).bind fun fv=>(IZ tb ih fv a s.m).bind fun r=>O' s dst k r:=by
 unfold dL;show((w_ tb s.t s.m.get {callee:=.value (.tmp x),args,argTypes:=ts}).bind fun cl=>(bA tb ih cl s.m).bind fun r=>match r with
  | .val v A=>bR {s with m:=A} dst v k
  | .kx v A=>.ok (.kx v,{s with m:=A}))=_
 unfold w_ IZ;simp only [R.a7];cases pC s.t args.toList with
 |no _=>rfl
 |ok a=>
  simp only [R.aw];cases ev s.t (.tmp x) with
  |no _=>rfl
  |ok fv=>
   simp only [R.aw];cases iG tb s.m.get fv a with
   |no _=>rfl
   |ok cl=>
    simp only [R.aw];cases bA tb ih cl s.m with
    |no _=>rfl
    |ok r=>cases r<;>rfl
end
theorem iW (t:T Value):ev t (.const (.slice none 0 0))= .ok (.slice none 0 0):=rfl
theorem e9 (t:T Value):ev t (.const .nilFunc)= .ok .nilFunc:=rfl
theorem bc (t:T Value):ev t (.const (.pointer none))= .ok (.pointer none):=rfl
theorem AE (t:T Value):ev t (.const (.map none))= .ok (.map none):=rfl
theorem mA (a b:Int):qc a b=decide (a<b):=by
 have h:∀x y:Nat,qax x y=decide (x<y):=fun x y=>by
  cases hb:qax x y with
  |true=>rw [qaH] at hb;simp [hb]
  |false=>
   have:¬x<y:=fun h=>by rw [←qaH,hb] at h;cases h
   simp [this]
 unfold qc;split
 ·rw [h];congr 1;simp
 ·symm;simp only [decide_eq_false_iff_not];simp only [qa2];omega
 ·symm;simp only [decide_eq_true_eq];simp only [qa2];omega
 ·rw [h];congr 1;simp only [eq_iff_iff];omega
theorem EW (a b:Int):ou a b=decide (a=b):=by
 have h:∀x y:Nat,qaw x y=decide (x=y):=fun x y=>by
  cases hb:qaw x y with
  |true=>have:=qaL hb;simp [this]
  |false=>have:=qdL hb;simp [this]
 unfold ou;split
 ·rw [h];congr 1;simp only [qa2,eq_iff_iff];omega
 ·rw [h];congr 1;simp only [eq_iff_iff];omega
 ·rename_i h1 h2;symm;simp only [decide_eq_false_iff_not];intro hab;subst hab;cases a with
  |ofNat x=>exact h1 x x rfl rfl
  |negSucc x=>exact h2 x x rfl rfl
theorem nt {k:IntKind} {a b:Int}:aM .leq k a b= .ok (.bool (decide (a≤b))):=by
 show R.ok (Value.bool (!qc b a))=_;rw [mA];congr 2;by_cases h:a≤b
 ·have:¬b<a:=by omega
  simp [h,this]
 ·have:b<a:=by omega
  simp [h,this]
theorem cT {k:IntKind} {a b:Int}:aM .gtr k a b= .ok (.bool (decide (b<a))):=by
 show R.ok (Value.bool (qc b a))=_;rw [mA]
theorem ef {k:IntKind} {a b:Int}:aM .geq k a b= .ok (.bool (decide (b≤a))):=by
 show R.ok (Value.bool (!qc a b))=_;rw [mA];congr 2;by_cases h:b≤a
 ·have:¬a<b:=by omega
  simp [h,this]
 ·have:a<b:=by omega
  simp [h,this]
theorem Dj {k:IntKind} {a b:Int}:aM .lss k a b= .ok (.bool (decide (a<b))):=by
 show R.ok (Value.bool (qc a b))=_;rw [mA]
theorem cL (a b:Nat):((a:Int)≤(b:Int))=(a≤b):=by simp
theorem bY (a b:Nat):((a:Int)<(b:Int))=(a<b):=by simp
variable {b:Nat}
theorem max_i64 {ts:List TypeId} {a:Nat}:aN tb .max ts [.int .i64 a,.int .i64 b]= .ok (.int .i64 (max a b:Nat)):=by
 have e:aN tb .max ts [.int .i64 a,.int .i64 b]= .ok (.int .i64 (bif qax a b then(b:Int) else(a:Int))):=by
  cases ts<;>rfl
 rw [e];cases h:qax a b with
 |true=>
  have:a<b:=by simpa [qaH] using h
  rw [qc5 (by omega)];rfl
 |false=>
  have:¬a<b:=by intro hx;rw [←qaH,h] at hx;cases hx
  rw [Nat.max_eq_left (by omega)];rfl
theorem Wi {p:Bool}:WT .not (.bool p)= .ok (.bool (!p)):=by cases p<;>rfl
def dw (A:Mem) (e:TypeId) (b:Nat) (k:Kd) (l:List Value):Prop:=∃c,A.get b=some (.cells e k 0 c)∧∀i,i<l.length→c.get i=l[i]?
theorem dz {e:TypeId} {k:Kd} {l:List Value} (h:A.get b=some (.cells e k 0 (T.bK .e 0 l))):dw A e b k l:=
 ⟨_,h,fun i hi=>by rw [T.dW,qa1,if_pos ⟨qaB _,hi⟩,qbA]⟩
theorem dw.same {e:TypeId} {k:Kd} {l:List Value} (h:dw A e b k l) (hg:A'.get b=A.get b):dw A' e b k l:=by
 obtain⟨c,h1,h2⟩:=h;exact⟨c,hg.trans h1,h2⟩
theorem gK {e:TypeId} {k:Kd} {l:List Value} (h:dw A e b k l):c9 A.get 1 l.length (some ⟨b,0,none⟩)= .ok l:=by
 obtain⟨c,h1,h2⟩:=h;unfold c9;simp only [qb2];cases hn:qaw l.length 0 with
 |true=>
  have:l=[]:=qaP.1 (qaL hn);subst this;rfl
 |false=>
  have hg:c.iu l.length 0=some l:=fq _ _ _ _ rfl fun j hj=>by rw [qa1];exact h2 j hj
  simp only [cond_false,h1,hg]
variable {o:Nat}
theorem aQ {e t:TypeId} {d:TypeDesc} {k:Kd} {l:List Value} (hu:tb.ba t=some d) (ha:bQ d=false) (h:dw A e b k l) (hv:l[o]?=some v):
 ag tb A.get t (.pointer (some ⟨b,o,none⟩))= .ok v:=by
 obtain⟨c,h1,h2⟩:=h;have ho:o<l.length:=(qap.1 hv).1;have hc:=h2 o ho;rw [hv] at hc;unfold ag;simp only [h1,hu,ha,cond_false,hc]
theorem aL {e t:TypeId} {k:Kd} {l:List Value} (hs:aR tb t= .ok 1) (h:dw A e b k l) (ho:o<l.length) (hv:v.cells.toList=[v]) (h1c:aJ v=true):
 ∃A',aW tb A t (.pointer (some ⟨b,o,none⟩)) v= .ok A'∧dw A' e b k (l.set o v)∧A'.next=A.next∧∀x,x≠b→A'.get x=A.get x:=by
 obtain⟨c,h1,h2⟩:=h;have hc:c.get o=some l[o]:=by rw [h2 o ho,qan ho]
 have hst:eJ (Bs k) 0 [v] o c= .ok (c.set o v):=by
  unfold eJ;have hb:(aJ v&&qaq 0 o)=true:=by rw [h1c];simp
  rw [hb,cond_true,hc];rfl
 refine⟨A.set b (.cells e k 0 (c.set o v)),?_,⟨_,by rw [aC,if_pos rfl],fun i hi=>?_⟩,aO _ _ _,fun x hx=>by rw [aC,if_neg hx]⟩
 ·unfold aW;simp only [hs,R.aw,hv];show(bif qaw 1 1 then dc A ⟨b,o,none⟩ [v] else .no 123)=_;unfold dc;simp only [h1,hst,R.aw];rfl
 ·rw [qaQ] at hi;rw [T.aH,qbB];by_cases hio:i=o
  ·subst hio;rw [if_pos rfl,if_pos rfl,if_pos hi]
  ·rw [if_neg hio,if_neg (fun x=>hio x.symm),h2 i hi]
def oe (A:Mem) (e:TypeId) (b:Nat) (l:List Value) (x:Value):Prop:=
 (x= .slice none 0 0∧l=[])∨∃k c,x= .slice (some ⟨b,0,none⟩) l.length c∧b<A.next∧dw A e b k l∧(c=2*l.length∨(c=fQ l.length 1∧(k= .row∨k= .mark)))
theorem oe.same {e:TypeId} {l:List Value} {x:Value} (h:oe A e b l x) (hn:A.next≤A'.next) (hg:b<A.next→A'.get b=A.get b):oe A' e b l x:=by
 rcases h with h|⟨k,c,h1,h2,h3,h4⟩
 ·exact .inl h
 ·exact .inr ⟨k,c,h1,qaD h2 hn,h3.same (hg h2),h4⟩
theorem oe.len {e t t':TypeId} {l:List Value} {x:Value} (h:oe A e b l x) (hu:tb.ba t=some (.slice t')):aN tb .len [t] [x]= .ok (.int .i64 (l.length:Nat)):=by
 rcases h with⟨rfl,rfl⟩|⟨k,c,rfl,-⟩<;>exact eu hu
theorem oe.idx {e t t':TypeId} {i:Nat} {kd:IntKind} {l:List Value} {x:Value} (h:oe A e b l x) (hu:tb.ba t=some (.slice t')) (hs:aR tb t'= .ok 1) (hi:i<l.length):
 aU tb t x (.int kd (i:Int))= .ok (.pointer (some ⟨b,i,none⟩)):=by
 rcases h with⟨rfl,rfl⟩|⟨k,c,rfl,-⟩
 ·simp at hi
 ·rw [ma hu hs hi,qa1]
theorem oe.load {e t:TypeId} {d:TypeDesc} {l:List Value} {x:Value} (h:oe A e b l x) (hu:tb.ba t=some d) (ha:bQ d=false) (hv:l[o]?=some v):
 ag tb A.get t (.pointer (some ⟨b,o,none⟩))= .ok v:=by
 rcases h with⟨rfl,rfl⟩|⟨k,c,rfl,h2,h3,-⟩
 ·simp at hv
 ·exact aQ hu ha h3 hv
theorem oe.cells {e:TypeId} {l:List Value} {x:Value} (h:oe A e b l x):x.cells.toList=[x]:=by
 rcases h with⟨rfl,rfl⟩|⟨k,c,rfl,-⟩<;>rfl
theorem oe.one {e:TypeId} {l:List Value} {x:Value} (h:oe A e b l x):aJ x=true:=by
 rcases h with⟨rfl,rfl⟩|⟨k,c,rfl,-⟩<;>rfl
theorem mu (l:List UInt8):(aj l).cells.toList=[aj l]:=rfl
theorem fh (k:IntKind) (n:Int):(Value.int k n).cells.toList=[.int k n]:=rfl
theorem Ax (a:Option Addr) (n c:Nat):(Value.slice a n c).cells.toList=[.slice a n c]:=rfl
theorem au (l:List Value):(Value.agg ⟨l⟩).cells.toList=l:=rfl
theorem M8 {a b:Bool}:iM .neq (some .bool) (.bool a) (.bool b)= .ok (.bool (a !=b)):=by cases a<;>cases b<;>rfl
theorem eA (f:Fn) (a b:Array Value):(Value.func f a b).cells.toList=[.func f a b]:=rfl
theorem builtin_append (A:Mem) (st xt:TypeId) (s x:Value):gJ tb A .append [st,xt] [s,x]=bj tb A st xt s x:=rfl
theorem oe.append {st xt e:TypeId} {i:TypeInfo} {z:Value} {b2:Nat} {l:List Value} {x:Value} (h:oe A e b l x) (hst:tb.ba st=some (.slice e)) (hxt:tb.ba xt=some (.slice e)) (hz:cm tb e= .ok (1,[z])) (hi:tb.ty.get e=some i) (hib:0<i.bytes) (hib':i.bytes≤65536)
 (hl:l.length<16777216) (hb2:A.get b2=some (aa e [v])) (h1c:aJ v=true):
 ∃x' A',bj tb A st xt x (.slice (some ⟨b2,0,none⟩) 1 2)= .ok (x',A')∧oe A' e A.next (l++[v]) x'∧A'.next=A.next+1∧∀y,y≠b→y<A.next→A'.get y=A.get y:=by
 have he1:(1:Nat)<65536:=by omega
 have hnew:eN A.get 1 1 (.slice (some ⟨b2,0,none⟩) 1 2)= .ok [v]:=gK (l:=[v]) (dz (e:=e) (k:=.var 1) hb2);have hlim:(qaq (l.length+1) 16777216&&qaq i.bytes 65536&&qax 0 i.bytes&&qax 0 1&&qax 1 65536)=true:=by
  have a1:qaq (l.length+1) 16777216=true:=qbd (by omega);have a2:qaq i.bytes 65536=true:=qbd hib';have a3:qax 0 i.bytes=true:=by rw [qaH];exact hib
  rw [a1,a2,a3];rfl
 have fin:∀(k':Kd) (A0:Mem),A0.next=A.next→(∀y,y≠b→A0.get y=A.get y)→(k'= .row∨k'= .mark)→
  oe (A0.alloc (.cells e k' 0 (T.bK .e 0 (l++[v])))) e A.next (l++[v]) (.slice (some ⟨A.next,0,none⟩) (l.length+1) (fQ (l.length+1) 1))∧(A0.alloc (.cells e k' 0 (T.bK .e 0 (l++[v])))).next=A.next+1∧∀y,y≠b→y<A.next→(A0.alloc (.cells e k' 0 (T.bK .e 0 (l++[v])))).get y=A.get y:=by
  intro k' A0 hn hg hk';refine⟨.inr ⟨k',_,by rw [qar];rfl,by rw [ae];omega,dz ?_,.inr ⟨by rw [qar];rfl,hk'⟩⟩,by rw [ae,hn],fun y hy hlt=>?_⟩
  ·rw [←hn];exact ax _ _
  ·rw [aB (by omega),hg y hy]
 rcases h with⟨rfl,rfl⟩|⟨k,c,rfl,h2,h3,h4⟩
 ·refine⟨.slice (some ⟨A.next,0,none⟩) 1 (fQ 1 1),A.alloc (.cells e .row 0 (T.bK .e 0 [v])),?_,?_⟩
  ·unfold bj cO;have hble:qaq (0+1) (bJ 0)=false:=rfl;have hx:dN 0=true:=rfl;have hel:c9 A.get 1 0 none= .ok []:=rfl;simp only [hst,hxt,eP,cond_false,hz,R.aw,gP,hnew,hble,hi];simp only [qaT,qa1] at hlim;simp only [qa1,hlim,cond_true,hel,R.aw,hx,qbv]
  ·exact fin .row A rfl (fun _ _=>rfl) (.inl rfl)
 ·obtain⟨cs,hb',hcs⟩:=h3;have hel:c9 A.get 1 l.length (some ⟨b,0,none⟩)= .ok l:=gK ⟨cs,hb',hcs⟩;rcases h4 with rfl|⟨rfl,hk⟩
  ·have hx:dN (2*l.length)=true:=by show qaw (2*l.length % 2) 0=true;rw [Nat.mul_mod_right];rfl
   have hcn:bJ (2*l.length)=l.length:=by unfold bJ;rw [hx,cond_true];show 2*l.length/2=l.length;omega
   have hble:qaq (l.length+1) (bJ (2*l.length))=false:=by
    rw [hcn];cases hq:qaq (l.length+1) l.length with
    |false=>rfl
    |true=>have:=qaG hq;omega
   refine⟨_,A.alloc (.cells e .row 0 (T.bK .e 0 (l++[v]))),?_,fin .row A rfl (fun _ _=>rfl) (.inl rfl)⟩;unfold bj cO;simp only [hst,hxt,eP,cond_false,hz,R.aw,gP,hnew,hble,hi,hlim,cond_true,hel,hx]
  ·have hble:qaq (l.length+1) (bJ (fQ l.length 1))=false:=by
    rw [cD he1];cases hq:qaq (l.length+1) l.length with
    |false=>rfl
    |true=>have:=qaG hq;omega
   have hx:dN (fQ l.length 1)=false:=cX _ _;have he:qaw (gO (fQ l.length 1)) 1=true:=by rw [c7 he1];rfl
   have hfz:(qaq 0 (0+l.length*1)&&(qaw e e&&qax 0 9223372036854775808))=true:=by
    have h0:qax 0 9223372036854775808=true:=by rw [qaH];omega
    rw [h0];simp
   refine⟨_,(A.set b .dead).alloc (.cells e k 0 (T.bK .e 0 (l++[v]))),?_,fin k (A.set b .dead) (aO _ _ _) (fun y hy=>by rw [aC,if_neg hy]) hk⟩;unfold bj cO;simp only [hst,hxt,eP,cond_false,hz,R.aw,gP,hnew,hble,hi,hlim,cond_true,hel,hx,he,qet,List.all_nil,h1c,qci,hb',hfz];rcases hk with rfl|rfl<;>rfl
def NJ (tb:bO) (ops:List Oper) (fl:List (Nat×Nat)):Bool:=
 match gU tb ops with
 | .ok l=>decide (l=fl)
 |_=>false
theorem aA {id:Nat} {ops:Array Oper} {s:St} (fl:List (Nat×Nat)) (h:NJ tb ops.toList fl=true):exec tb (n+1) (.region id ops true) s=(dX tb (exec tb n) ops.toList fl ops.toList 0 [] [] [] s).bind fun(e,s)=>match e with
 | .nrm=>.ok (.nrm,s)
 |_=>.no 312:=by
 have h':gU tb ops.toList= .ok fl:=by
  unfold NJ at h;split at h
  ·rename_i l hl;rw [hl,of_decide_eq_true h]
  ·cases h
 show((gU tb ops.toList).bind fun fl=>(dX tb (exec tb n) ops.toList fl ops.toList 0 [] [] [] s).bind fun(e,s)=>_)=_;rw [h'];rfl
section
variable {ops l:List Oper} {fl:List (Nat×Nat)} {dst:Option Tmp} {op:Op} {ty:TypeId} {pos:String} {after:Array Edge} {i:Nat} {mems:List (Nat×Mem)} {recs:List Rec} {mks:List (Nat×Nat)} {s:St}
theorem Pd:dX tb ih ops fl [] i mems recs mks s= .ok (.nrm,s):=rfl
theorem pT : dX tb ih ops fl ({ dst, op, type := ty, pos, after, guard := none } :: l) i mems recs mks s = match cls tb op with
        | .L => dL tb ih { dst, op, type := ty, pos, after, guard := none } { s with m := ff ((mks.filter fun x => b_ x.1 i fl).map (·.2)) s.m } fun s' =>
          (gI s.m.get ((mks.filter fun x => b_ x.1 i fl).map (·.2)) s'.m).bind fun A =>
          bif (recs.filter fun x => b_ x.i i fl).all (eg tb A.get) then dX tb ih ops fl l (i + 1) ((i, s.m) :: mems) recs mks { s' with m := A } else .no 310
        | .Rd => (nX tb s.t s.m.get op).bind fun v =>
          bif (mems.filter fun m => b_ i m.1 fl).all (fun m => eg tb m.2.get ⟨i, s.t, op, v⟩) then bR s dst v (dX tb ih ops fl l (i + 1) mems (⟨i, s.t, op, v⟩ :: recs) mks) else .no 311
        | .Al => dL tb ih { dst, op, type := ty, pos, after, guard := none } s fun s' => dX tb ih ops fl l (i + 1) (wE s.m.next (s'.m.get s.m.next) mems) recs ((i, s.m.next) :: mks) s'
        | .P => dL tb ih { dst, op, type := ty, pos, after, guard := none } s (dX tb ih ops fl l (i + 1) mems recs mks) := rfl
theorem VC (h:cls tb op= .P):dX tb ih ops fl ({dst,op,type:=ty,pos,after,guard:=none}::l) i mems recs mks s=dL tb ih {dst,op,type:=ty,pos,after,guard:=none} s (dX tb ih ops fl l (i+1) mems recs mks):=by
 rw [pT,h]
theorem Su (h:cls tb op= .Al):dX tb ih ops fl ({dst,op,type:=ty,pos,after,guard:=none}::l) i mems recs mks s=dL tb ih {dst,op,type:=ty,pos,after,guard:=none} s fun s'=>dX tb ih ops fl l (i+1) (wE s.m.next (s'.m.get s.m.next) mems) recs ((i,s.m.next)::mks) s':=by
 rw [pT,h]
def oY {α:Type} (p:Nat→Bool):List (Nat×α)→List (Nat×α)
 | []=>[]
 |x::l=>bif p x.1 then x::oY p l else oY p l
theorem PS {α:Type} (p:Nat→Bool):oY p ([]:List (Nat×α))=[]:=rfl
theorem PT {α:Type} {p:Nat→Bool} {j:Nat} {a:α} {l:List (Nat×α)} (h:p j=true):oY p ((j,a)::l)=(j,a)::oY p l:=by simp [oY,h]
theorem S3 {α:Type} {p:Nat→Bool} {j:Nat} {a:α} {l:List (Nat×α)} (h:p j=false):oY p ((j,a)::l)=oY p l:=by simp [oY,h]
theorem wo {α:Type} (p:Nat→Bool) (l:List (Nat×α)):(l.filter fun x=>p x.1)=oY p l:=by
 induction l with
 |nil=>rfl
 |cons x l ih=>
  unfold oY;cases h:p x.1<;>simp [h,ih]
def tT (p:Nat→Bool):List Rec→List Rec
 | []=>[]
 |x::l=>bif p x.i then x::tT p l else tT p l
theorem PU (p:Nat→Bool):tT p []=[]:=rfl
theorem PV {p:Nat→Bool} {j:Nat} {o:Op} {l:List Rec} (h:p j=true):tT p (⟨j,t,o,v⟩::l)=⟨j,t,o,v⟩::tT p l:=by simp [tT,h]
theorem S4 {p:Nat→Bool} {j:Nat} {o:Op} {l:List Rec} (h:p j=false):tT p (⟨j,t,o,v⟩::l)=tT p l:=by simp [tT,h]
theorem J3 (p:Nat→Bool) (l:List Rec):(l.filter fun x=>p x.i)=tT p l:=by
 induction l with
 |nil=>rfl
 |cons x l ih=>
  unfold tT;cases h:p x.i<;>simp [h,ih]
def lS (tb:bO) (x:Rec):List (Nat×Mem)→Bool
 | []=>true
 |m::l=>eg tb m.2.get x&&lS tb x l
theorem Fw (x:Rec):lS tb x []=true:=rfl
theorem Dq (x:Rec) (j:Nat) (A:Mem) (l:List (Nat×Mem)):lS tb x ((j,A)::l)=(eg tb A.get x&&lS tb x l):=rfl
theorem yJ (x:Rec) (l:List (Nat×Mem)):(l.all fun m=>eg tb m.2.get x)=lS tb x l:=by
 induction l with
 |nil=>rfl
 |cons m l ih=>simp [lS,ih]
def lT (tb:bO) (g:Nat→Option Ob):List Rec→Bool
 | []=>true
 |m::l=>eg tb g m&&lT tb g l
theorem Fx (g:Nat→Option Ob):lT tb g []=true:=rfl
theorem Dr (g:Nat→Option Ob) (x:Rec) (l:List Rec):lT tb g (x::l)=(eg tb g x&&lT tb g l):=rfl
theorem yK (g:Nat→Option Ob) (l:List Rec):(l.all (eg tb g))=lT tb g l:=by
 induction l with
 |nil=>rfl
 |cons m l ih=>simp [lT,ih]
def Ds (x:R Value) (v:Value):Bool:=
 match x with
 | .ok v'=>cG 100 v' v
 | .no _=>false
theorem Fy (g:Nat→Option Ob) (j:Nat) (t:T Value) (e:TypeId) (x:Tmp) (v:Value):eg tb g ⟨j,t,.load e (.tmp x),v⟩=Ds ((ev t (.tmp x)).bind fun x=>ag tb g e x) v:=rfl
theorem mN (b o n c:Nat):cG 100 (.slice (some ⟨b,o,none⟩) n c) (.slice (some ⟨b,o,none⟩) n c)=true:=by simp [cG,uT,qx]
theorem eS (k:IntKind) (n:Nat) (h:eD k k=true):cG 100 (.int k (n:Int)) (.int k (n:Int))=true:=by
 have:ou (n:Int) (n:Int)=true:=by rw [EW];simp
 simp [cG,h,this]
theorem HZ (v w:Value):Ds (.ok v) w=cG 100 v w:=rfl
theorem Sv (h:cls tb op= .Rd):dX tb ih ops fl ({dst,op,type:=ty,pos,after,guard:=none}::l) i mems recs mks s=(nX tb s.t s.m.get op).bind fun v=>
 bif lS tb ⟨i,s.t,op,v⟩ (oY (fun j=>b_ i j fl) mems) then bR s dst v (dX tb ih ops fl l (i+1) mems (⟨i,s.t,op,v⟩::recs) mks) else .no 311:=by
 rw [pT,h];simp only [wo (fun j=>b_ i j fl) mems,yJ]
theorem VA (h:cls tb op= .L):dX tb ih ops fl ({dst,op,type:=ty,pos,after,guard:=none}::l) i mems recs mks s=
 dL tb ih {dst,op,type:=ty,pos,after,guard:=none} {s with m:=ff ((oY (fun j=>b_ j i fl) mks).map (·.2)) s.m} fun s'=>
  (gI s.m.get ((oY (fun j=>b_ j i fl) mks).map (·.2)) s'.m).bind fun A=>
  bif lT tb A.get (tT (fun j=>b_ j i fl) recs) then dX tb ih ops fl l (i+1) ((i,s.m)::mems) recs mks {s' with m:=A} else .no 310:=by
 rw [pT,h];simp only [wo (fun j=>b_ j i fl) mks,J3 (fun j=>b_ j i fl) recs,yK]
theorem Pg {j:Nat} {want:Bool} (h:fu ops {dst,op,type:=ty,pos,after,guard:=some (j,want)} s.t= .ok false):dX tb ih ops fl ({dst,op,type:=ty,pos,after,guard:=some (j,want)}::l) i mems recs mks s=bR s dst bL (dX tb ih ops fl l (i+1) mems recs mks):=by
 show((fu ops {dst,op,type:=ty,pos,after,guard:=some (j,want)} s.t).bind fun w=>bif w then _ else bR s dst bL (dX tb ih ops fl l (i+1) mems recs mks))=_;rw [h];rfl
theorem sf {j : Nat} {want : Bool} (h : fu ops { dst, op, type := ty, pos, after, guard := some (j, want) } s.t = .ok true) : dX tb ih ops fl ({ dst, op, type := ty, pos, after, guard := some (j, want) } :: l) i mems recs mks s = match cls tb op with
        | .L => dL tb ih { dst, op, type := ty, pos, after, guard := some (j, want) } { s with m := ff ((mks.filter fun x => b_ x.1 i fl).map (·.2)) s.m } fun s' =>
          (gI s.m.get ((mks.filter fun x => b_ x.1 i fl).map (·.2)) s'.m).bind fun A =>
          bif (recs.filter fun x => b_ x.i i fl).all (eg tb A.get) then dX tb ih ops fl l (i + 1) ((i, s.m) :: mems) recs mks { s' with m := A } else .no 310
        | .Rd => (nX tb s.t s.m.get op).bind fun v =>
          bif (mems.filter fun m => b_ i m.1 fl).all (fun m => eg tb m.2.get ⟨i, s.t, op, v⟩) then bR s dst v (dX tb ih ops fl l (i + 1) mems (⟨i, s.t, op, v⟩ :: recs) mks) else .no 311
        | .Al => dL tb ih { dst, op, type := ty, pos, after, guard := some (j, want) } s fun s' => dX tb ih ops fl l (i + 1) (wE s.m.next (s'.m.get s.m.next) mems) recs ((i, s.m.next) :: mks) s'
        | .P => dL tb ih { dst, op, type := ty, pos, after, guard := some (j, want) } s (dX tb ih ops fl l (i + 1) mems recs mks) := by
  show ((fu ops { dst, op, type := ty, pos, after, guard := some (j, want) } s.t).bind fun w => bif w then _ else _) = _
  rw [h]; rfl
section
variable {j:Nat} {want:Bool} (hw:fu ops {dst,op,type:=ty,pos,after,guard:=some (j,want)} s.t= .ok true)
include hw
theorem Sx (h:cls tb op= .P):dX tb ih ops fl ({dst,op,type:=ty,pos,after,guard:=some (j,want)}::l) i mems recs mks s=dL tb ih {dst,op,type:=ty,pos,after,guard:=some (j,want)} s (dX tb ih ops fl l (i+1) mems recs mks):=by
 rw [sf hw,h]
theorem Pe (h:cls tb op= .Al):dX tb ih ops fl ({dst,op,type:=ty,pos,after,guard:=some (j,want)}::l) i mems recs mks s=dL tb ih {dst,op,type:=ty,pos,after,guard:=some (j,want)} s fun s'=>dX tb ih ops fl l (i+1) (wE s.m.next (s'.m.get s.m.next) mems) recs ((i,s.m.next)::mks) s':=by
 rw [sf hw,h]
theorem Pf (h:cls tb op= .Rd):dX tb ih ops fl ({dst,op,type:=ty,pos,after,guard:=some (j,want)}::l) i mems recs mks s=(nX tb s.t s.m.get op).bind fun v=>
 bif lS tb ⟨i,s.t,op,v⟩ (oY (fun j=>b_ i j fl) mems) then bR s dst v (dX tb ih ops fl l (i+1) mems (⟨i,s.t,op,v⟩::recs) mks) else .no 311:=by
 rw [sf hw,h];simp only [wo (fun j=>b_ i j fl) mems,yJ]
theorem Sw (h:cls tb op= .L):dX tb ih ops fl ({dst,op,type:=ty,pos,after,guard:=some (j,want)}::l) i mems recs mks s=
 dL tb ih {dst,op,type:=ty,pos,after,guard:=some (j,want)} {s with m:=ff ((oY (fun j=>b_ j i fl) mks).map (·.2)) s.m} fun s'=>
  (gI s.m.get ((oY (fun j=>b_ j i fl) mks).map (·.2)) s'.m).bind fun A=>
  bif lT tb A.get (tT (fun j=>b_ j i fl) recs) then dX tb ih ops fl l (i+1) ((i,s.m)::mems) recs mks {s' with m:=A} else .no 310:=by
 rw [sf hw,h];simp only [wo (fun j=>b_ j i fl) mks,J3 (fun j=>b_ j i fl) recs,yK]
end
theorem pU (l:List UInt8):cG 100 (aj l) (aj l)=true:=by
 show eY l l=true;rw [di];simp
theorem MV (b:Nat) (o:Option Ob):wE b o []=[]:=by cases o<;>rfl
theorem KB (b:Nat) (o:Ob) (j:Nat) (A:Mem) (l:List (Nat×Mem)):wE b (some o) ((j,A)::l)=(j,A.set b o)::wE b (some o) l:=rfl
theorem KJ (g:Nat→Option Ob) (A:Mem):gI g [] A= .ok A:=rfl
theorem O8 (t:T Value) (g:Nat→Option Ob) (e:TypeId) (x:Tmp):nX tb t g (.load e (.tmp x))=(ev t (.tmp x)).bind fun x=>ag tb g e x:=rfl
end
end
section
variable {tb:bO}
theorem jR (n:Nat) (f:Operand) (ps:Array Tmp) (a b:Code) (s:St):exec tb (n+1) (.rangeFunc f ps a b) s=fU tb (exec tb n) f ps.toList a b 0 s:=rfl
def iZ (t:T Value) (n:Nat) (ps:List Tmp) (a b:Code) (d:Nat):f_:={state:=.ready,pending:=none,fn:=0,tmps:=t,n:=n,params:=ps,assign:=a,body:=b,defers:=d}
variable {t:T Value} {n:Nat} {A A':Mem} {v:Value}
theorem W.tR {f:Operand} {ps:Array Tmp} {a b:Code} {K:Ex→St→Prop} {fid:FuncId} {first capt:List Value} {r:f_}
 (hf:ev t f= .ok (.func (.func fid) ⟨first⟩ ⟨capt⟩))
 (hc:bg tb fid (first++[.func (.yield (A.next+1)) ⟨[]⟩ ⟨[]⟩]++capt) ((A.alloc .defd).alloc (.loop (iZ t n ps.toList a b A.next))) v A')
 (hr:A'.get (A.next+1)=some (.loop r)) (hst:r.state≠ .busy) (hp:r.pending=none)
 (k:K .nrm ⟨t,n,[A.next],A'.set (A.next+1) (.loop {r with state:=.exhausted}),none⟩):W tb (.rangeFunc f ps a b) ⟨t,n,[],A,none⟩ K:=by
 obtain⟨g,hg⟩:=hc;refine⟨_,_,⟨g+1,fun m=>?_⟩,k⟩;rw [show m+(g+1)=(m+g)+1 by omega,jR];have h1:=hg (m+g) (by omega);unfold fU;simp only [hf,R.aw];have hn:(A.alloc .defd).next=A.next+1:=ae _ _
 rw [hn];have hcal:∀g':Nat→Option Ob,iG tb g' (.func (.func fid) ⟨first⟩ ⟨capt⟩) [.func (.yield (A.next+1)) ⟨[]⟩ ⟨[]⟩]= .ok (.fn fid (first++[.func (.yield (A.next+1)) ⟨[]⟩ ⟨[]⟩]++capt)):=fun _=>rfl
 rw [hcal,R.aw];unfold iZ at h1;rw [h1,R.aw];simp only [hr,hp];cases hs:r.state with
 |busy=>exact absurd hs hst
 |_=>rfl
theorem j7 {l:Nat} {args:List Value} {r:f_} {Q:Mem→Prop} (hl:A.get l=some (.loop r)) (ht:setArgs r.n r.params args r.tmps= .ok t)
 (h:W tb r.assign ⟨t,r.n,[],A,some l⟩ fun e s1=>e= .nrm∧∃r1,s1.m.get l=some (.loop r1)∧r1.state= .ready∧W tb r.body ⟨s1.t,s1.n,s1.d,s1.m.set l (.loop {r1 with state:=.busy}),s1.ro⟩ fun e s2=>e= .nrm∧s2.d=[]∧∃r2,s2.m.get l=some (.loop r2)∧Q (s2.m.set l (.loop {r2 with state:=.ready,pending:=none}))):
 ∃A',(∃g,∀M,g≤M→bA tb (exec tb M) (.round l args) A= .ok (.val (.bool true) A'))∧Q A':=by
 obtain⟨e,s1,⟨f1,h1⟩,rfl,r1,hr1,hst1,e2,s2,⟨f2,h2⟩,rfl,hd,r2,hr2,hQ⟩:=h;refine⟨_,⟨f1+f2,fun M hM=>?_⟩,hQ⟩;show nw (exec tb M) l args A=_;unfold nw;have e1:=h1 (M-f1);rw [qce (by omega)] at e1;have e2:=h2 (M-f2);rw [qce (by omega)] at e2;simp only [hl,ht,R.aw,e1,hr1,hst1,e2,hd,hr2]
end
section
variable {tb:bO} (ok:cC tb)
include ok in
theorem Hg {n:Nat} {f:FuncId} {args:List Value} {v:Value} {A A':Mem} (h:call tb n f args A= .ok (.val v A')) {fn:Func} {c:Code} (hf:tb.fn.get f=some fn) (hb:fn.body=some c) (args':Array Value) (w:World) {ι:de} (hr:Rel ι A w)
 (ha:dv ι args args'.toList) (hfree:∀b,A.next≤b→ι b=none) (hst:∀b l,live A b→ι b=some l→Still A b l):Calls tb.P f args' w fun e w'=>∃ι' v',e= .returned v'∧VR ι' v v'∧Leaves w w':=by
 intro cs;unfold call at h;simp only [hf,hb] at h;rcases xH ok (jS ok n) hf hb h with⟨_,_,h1,_⟩|⟨v,A',h1,hle,hs⟩
 ·cases h1
 ·cases h1;obtain⟨ι',w',v',⟨fr0,st,hfn,hlv⟩,hv,hrel,hstp⟩:=hs ι w args' cs hr ha (fun b h1 _=>hfree b h1);refine⟨.returned v',w',fr0,⟨ι',v',rfl,hv,fun c hc=>?_,hstp.size,hstp.os,hstp.tape,hstp.output⟩,st,hfn,hlv⟩;by_cases hx:∃b l,live A b∧ι b=some l∧l.blk=c
  ·obtain⟨b,l,h1,h2,rfl⟩:=hx;exact(hstp.kept b l h2 (hst b l h1 h2)).2
  ·exact hstp.fr c hc fun b l h1 h2 h3=>hx ⟨b,l,h1,h2,h3⟩
end
section
variable {tb:bO}
theorem zg (m:Nat):∀(vs:List Value) (i:Nat) (c:T Value),(∀v∈vs,aJ v=true)→(∀j,j<vs.length→∃y,c.get (i+j)=some y)→eJ m 0 vs i c= .ok (c.bK i vs)
 | [],_,_,_,_=>rfl
 |v::vs,i,c,h1,h2=>by
  unfold eJ;have hb:(aJ v&&qaq 0 i)=true:=by rw [h1 v (qaz ..)];simp
  obtain⟨y,hy⟩:=h2 0 (by simp);rw [qa8] at hy;rw [hb,cond_true,hy];refine zg m vs (i+1) (c.set i v) (fun w hw=>h1 w (qay _ hw)) fun j hj=>?_
  rw [T.aH];by_cases e:i+1+j=i
  ·omega
  ·rw [if_neg e];obtain⟨y,hy⟩:=h2 (j+1) (by simp;omega);exact⟨y,by rw [←hy];congr 1;omega⟩
variable {A:Mem} {b:Nat} {l:List Value}
theorem cY {e t:TypeId} {k:Kd} {l':List Value} (hs:aR tb t= .ok l.length) (h:dw A e b k l) (hl:l'.length=l.length) (h0:l≠ []) (h1:∀v∈l',aJ v=true):
 ∃A',aW tb A t (.pointer (some ⟨b,0,none⟩)) (.agg ⟨l'⟩)= .ok A'∧dw A' e b k l'∧A'.next=A.next∧∀x,x≠b→A'.get x=A.get x:=by
 obtain⟨c,h2,h3⟩:=h;have hst:eJ (Bs k) 0 l' 0 c= .ok (c.bK 0 l'):=zg _ l' 0 c h1 fun j hj=>by
  rw [qa1,h3 j (by omega),qan (show j<l.length by omega)];exact⟨_,rfl⟩
 refine⟨A.set b (.cells e k 0 (c.bK 0 l')),?_,⟨_,by rw [aC,if_pos rfl],fun i hi=>?_⟩,aO _ _ _,fun x hx=>by rw [aC,if_neg hx]⟩
 ·unfold aW;have hc:(Value.agg ⟨l'⟩).cells.toList=l':=rfl;simp only [hs,R.aw,hc];have hb:qaw l'.length l.length=true:=by rw [hl];simp
  rw [hb,cond_true];cases l' with
  |nil=>cases l with
   |nil=>exact absurd rfl h0
   |cons _ _=>simp at hl
  |cons v vs=>
   unfold dc;simp only [h2,hst,R.aw]
 ·rw [T.dW,if_pos ⟨qaB _,by omega⟩,qbA]
theorem aI {e t:TypeId} {k:Kd} {d:TypeDesc} (hu:tb.ba t=some d) (ha:bQ d=true) (hs:aR tb t= .ok l.length) (h:dw A e b k l):ag tb A.get t (.pointer (some ⟨b,0,none⟩))= .ok (.agg ⟨l⟩):=by
 obtain⟨c,h1,h2⟩:=h;have hg:c.iu l.length 0=some l:=fq _ _ _ _ rfl fun j hj=>by rw [qa1];exact h2 j hj
 unfold ag;simp only [h1,hu,ha,cond_true,hs,R.aw,hg]
theorem g_ (A:Mem) (e:TypeId) (l:List Value):dw (A.alloc (aa e l)) e A.next (.var l.length) l:=dz (ax _ _)
variable {n:Nat}
theorem cM:∀{ls:List (List Value)},(∀l∈ls,l.length=n)→ls.flatten.length=ls.length*n
 | [],_=>by simp
 |l::ls,h=>by
  rw [qb3,qar,cM (fun x hx=>h x (qay _ hx)),h l (qaz ..),qaA,qcl,qcG,qdt]
theorem dy:∀{ls:List (List Value)} {i j:Nat} {l:List Value},(∀l∈ls,l.length=n)→ls[i]?=some l→j<n→ls.flatten[i*n+j]?=l[j]?
 | [],i,j,l,_,hi,_=>by simp at hi
 |l0::ls,0,j,l,h,hi,hj=>by
  simp only [qau,qaX] at hi;subst hi;rw [qb3,qcN,qa1,qaJ (by rw [h _ (qaz ..)];exact hj)]
 |l0::ls,i+1,j,l,h,hi,hj=>by
  simp only [qav] at hi;have hl0:=h l0 (qaz ..);rw [qb3,qaF (by rw [hl0,qcl];omega),hl0,show(i+1)*n+j-n=i*n+j by rw [qcl,qcG];omega];exact dy (fun x hx=>h x (qay _ hx)) hi hj
def az (A:Mem) (e:TypeId) (n b:Nat) (ls:List (List Value)) (x:Value):Prop:=
 (x= .slice none 0 0∧ls=[])∨∃k c,x= .slice (some ⟨b,0,none⟩) ls.length c∧b<A.next∧dw A e b k ls.flatten∧(∀l∈ls,l.length=n)∧(c=2*ls.length∨(c=fQ ls.length n∧(k= .row∨k= .mark)))
theorem az.nil (A:Mem) (e:TypeId) (n b:Nat):az A e n b [] (.slice none 0 0):=.inl ⟨rfl,rfl⟩
variable {A':Mem} {ls:List (List Value)}
theorem az.same {e:TypeId} {x:Value} (h:az A e n b ls x) (hn:A.next≤A'.next) (hg:b<A.next→A'.get b=A.get b):az A' e n b ls x:=by
 rcases h with h|⟨k,c,h1,h2,h3,h4⟩
 ·exact .inl h
 ·exact .inr ⟨k,c,h1,qaD h2 hn,h3.same (hg h2),h4⟩
theorem az.len {e t t':TypeId} {x:Value} (h:az A e n b ls x) (hu:tb.ba t=some (.slice t')):aN tb .len [t] [x]= .ok (.int .i64 (ls.length:Nat)):=by
 rcases h with⟨rfl,rfl⟩|⟨k,c,rfl,-⟩<;>exact eu hu
variable {i:Nat}
theorem az.idx {e t t':TypeId} {kd:IntKind} {x:Value} (h:az A e n b ls x) (hu:tb.ba t=some (.slice t')) (hs:aR tb t'= .ok n) (hi:i<ls.length):
 aU tb t x (.int kd (i:Int))= .ok (.pointer (some ⟨b,i*n,none⟩)):=by
 rcases h with⟨rfl,rfl⟩|⟨k,c,rfl,-⟩
 ·simp at hi
 ·have hb:qax i ls.length=true:=by rw [qaH];exact hi
  have hn:kU (.int kd (i:Int))= .ok i:=rfl;unfold aU;simp only [hn,hu,hb,cond_true,hs,R.aw,h_,qa1]
variable {j:Nat} {v:Value}
theorem az.load {e t:TypeId} {d:TypeDesc} {x:Value} (h:az A e n b ls x) (hu:tb.ba t=some d) (ha:bQ d=false) (hi:ls[i]?=some l) (hj:l[j]?=some v) (hjn:j<n):
 ag tb A.get t (.pointer (some ⟨b,i*n+j,none⟩))= .ok v:=by
 rcases h with⟨rfl,rfl⟩|⟨k,c,rfl,h2,h3,h4,-⟩
 ·simp at hi
 ·exact aQ hu ha h3 (by rw [dy h4 hi hjn];exact hj)
theorem az.aI {e t:TypeId} {d:TypeDesc} {x:Value} (h:az A e n b ls x) (hu:tb.ba t=some d) (ha:bQ d=true) (hs:aR tb t= .ok n) (hi:ls[i]?=some l):
 ag tb A.get t (.pointer (some ⟨b,i*n,none⟩))= .ok (.agg ⟨l⟩):=by
 rcases h with⟨rfl,rfl⟩|⟨k,c,rfl,h2,⟨cs,h5,h6⟩,h4,-⟩
 ·simp at hi
 ·have hl:l.length=n:=h4 l (qa0 hi);have hlen:=cM h4;have hil:i<ls.length:=(qap.1 hi).1;have hg:cs.iu n (i*n)=some l:=fq _ _ _ _ hl fun j hj=>by
   rw [h6 (i*n+j) (by
    rw [hlen];have:=qcK n (show i+1≤ls.length from hil);rw [qcl,qcG] at this;omega),dy h4 hi hj]
  unfold ag;simp only [h5,hu,ha,cond_true,hs,R.aw,hg]
variable {m:Nat}
theorem ep {e:TypeId} {k:Kd} (h:dw A e b k l) (hl:l.length=m*n):c9 A.get n m (some ⟨b,0,none⟩)= .ok l:=by
 obtain⟨c,h1,h2⟩:=h;unfold c9;simp only [];cases hn:qaw (m*n) 0 with
 |true=>
  have:l=[]:=qaP.1 (by rw [hl];exact qaL hn);subst this;rfl
 |false=>
  have hg:c.iu (m*n) 0=some l:=fq _ _ _ _ hl fun j hj=>by rw [qa1];exact h2 j (by omega)
  simp only [cond_false,h1,hg]
theorem az.append {st xt e:TypeId} {i:TypeInfo} {z:List Value} {b2:Nat} {x:Value} (h:az A e n b ls x) (hst:tb.ba st=some (.slice e)) (hxt:tb.ba xt=some (.slice e)) (hz:cm tb e= .ok (n,z)) (hi:tb.ty.get e=some i) (hib:0<i.bytes) (hib':i.bytes≤65536)
 (hn0:0<n) (hn1:n<65536) (hls:ls.length<16777216) (hb2:A.get b2=some (aa e l)) (hl:l.length=n) (h1c:∀v∈l,aJ v=true):
 ∃x' A',bj tb A st xt x (.slice (some ⟨b2,0,none⟩) 1 2)= .ok (x',A')∧az A' e n A.next (ls++[l]) x'∧A'.next=A.next+1∧∀y,(y=b→x= .slice none 0 0)→y<A.next→A'.get y=A.get y:=by
 have hnew:eN A.get n 1 (.slice (some ⟨b2,0,none⟩) 1 2)= .ok l:=ep (dz (e:=e) (k:=.var l.length) hb2) (by rw [qcG];exact hl);have hlim:(qaq (ls.length+1) 16777216&&qaq i.bytes 65536&&qax 0 i.bytes&&qax 0 n&&qax n 65536)=true:=by
  have a1:qaq (ls.length+1) 16777216=true:=qbd (by omega);have a2:qaq i.bytes 65536=true:=qbd hib';have a3:qax 0 i.bytes=true:=by rw [qaH];exact hib
  have a4:qax 0 n=true:=by rw [qaH];exact hn0
  have a5:qax n 65536=true:=by rw [qaH];exact hn1
  rw [a1,a2,a3,a4,a5];rfl
 have hfl:(ls++[l]).flatten=ls.flatten++l:=by simp
 have fin:∀(k':Kd) (A0:Mem),A0.next=A.next→(∀y,y≠b→A0.get y=A.get y)→(k'= .row∨k'= .mark)→(∀l∈ls,l.length=n)→
  az (A0.alloc (.cells e k' 0 (T.bK .e 0 (ls.flatten++l)))) e n A.next (ls++[l]) (.slice (some ⟨A.next,0,none⟩) (ls.length+1) (fQ (ls.length+1) n))∧(A0.alloc (.cells e k' 0 (T.bK .e 0 (ls.flatten++l)))).next=A.next+1∧∀y,y≠b→y<A.next→(A0.alloc (.cells e k' 0 (T.bK .e 0 (ls.flatten++l)))).get y=A.get y:=by
  intro k' A0 hn hg hk' hall;refine⟨.inr ⟨k',_,by rw [qar];rfl,by rw [ae];omega,dz ?_,fun y hy=>?_,.inr ⟨by rw [qar];rfl,hk'⟩⟩,by rw [ae,hn],fun y hy hlt=>?_⟩
  ·rw [hfl,←hn];exact ax _ _
  ·rcases qbF.1 hy with h|h
   ·exact hall y h
   ·rw [qaY.1 h];exact hl
  ·rw [aB (by omega),hg y hy]
 rcases h with⟨rfl,rfl⟩|⟨k,c,rfl,h2,h3,h4,h5⟩
 ·refine⟨.slice (some ⟨A.next,0,none⟩) 1 (fQ 1 n),A.alloc (.cells e .row 0 (T.bK .e 0 ([]++l))),?_,?_⟩
  ·unfold bj cO;have hble:qaq (0+1) (bJ 0)=false:=rfl;have hx:dN 0=true:=rfl;have hel:c9 A.get n 0 none= .ok []:=rfl;simp only [hst,hxt,eP,cond_false,hz,R.aw,gP,hnew,hble,hi];simp only [qaT,qa1] at hlim;simp only [qa1,hlim,cond_true,hel,R.aw,hx]
  ·obtain⟨f1,f2,-⟩:=fin .row A rfl (fun _ _=>rfl) (.inl rfl) (fun l h=>by cases h);exact⟨f1,f2,fun y _ hy=>aB (by omega)⟩
 ·have hel:c9 A.get n ls.length (some ⟨b,0,none⟩)= .ok ls.flatten:=ep h3 (cM h4);obtain⟨cs,hb',hcs⟩:=h3;rcases h5 with rfl|⟨rfl,hk⟩
  ·have hx:dN (2*ls.length)=true:=by show qaw (2*ls.length % 2) 0=true;rw [Nat.mul_mod_right];rfl
   have hcn:bJ (2*ls.length)=ls.length:=by unfold bJ;rw [hx,cond_true];show 2*ls.length/2=ls.length;omega
   have hble:qaq (ls.length+1) (bJ (2*ls.length))=false:=by
    rw [hcn];cases hq:qaq (ls.length+1) ls.length with
    |false=>rfl
    |true=>have:=qaG hq;omega
   refine⟨_,A.alloc (.cells e .row 0 (T.bK .e 0 (ls.flatten++l))),?_,(fin .row A rfl (fun _ _=>rfl) (.inl rfl) h4).1,(fin .row A rfl (fun _ _=>rfl) (.inl rfl) h4).2.1,fun y hy=>(fin .row A rfl (fun _ _=>rfl) (.inl rfl) h4).2.2 y (fun e=>by cases hy e)⟩;unfold bj cO;simp only [hst,hxt,eP,cond_false,hz,R.aw,gP,hnew,hble,hi,hlim,cond_true,hel,hx]
  ·have hble:qaq (ls.length+1) (bJ (fQ ls.length n))=false:=by
    rw [cD hn1];cases hq:qaq (ls.length+1) ls.length with
    |false=>rfl
    |true=>have:=qaG hq;omega
   have hx:dN (fQ ls.length n)=false:=cX _ _;have he:qaw (gO (fQ ls.length n)) n=true:=by rw [c7 hn1];simp
   have hall:l.all aJ=true:=qby.2 h1c;have hfz:(qaq 0 (0+ls.length*n)&&(qaw e e&&qax 0 9223372036854775808))=true:=by
    have h0:qax 0 9223372036854775808=true:=by rw [qaH];omega
    rw [h0];simp
   refine⟨_,(A.set b .dead).alloc (.cells e k 0 (T.bK .e 0 (ls.flatten++l))),?_,(fin k (A.set b .dead) (aO _ _ _) (fun y hy=>by rw [aC,if_neg hy]) hk h4).1,(fin k (A.set b .dead) (aO _ _ _) (fun y hy=>by rw [aC,if_neg hy]) hk h4).2.1,fun y hy=>(fin k (A.set b .dead) (aO _ _ _) (fun y hy=>by rw [aC,if_neg hy]) hk h4).2.2 y (fun e=>by cases hy e)⟩;unfold bj cO;simp only [hst,hxt,eP,cond_false,hz,R.aw,gP,hnew,hble,hi,hlim,cond_true,hel,hx,he,hall,qci,hb',hfz];rcases hk with rfl|rfl<;>rfl
end
section
variable {tb:bO}
def iK (A:Mem) (e:TypeId) (n b:Nat) (ls:List (List Value)) (x:Value):Prop:=
 (x= .slice none 0 0∧ls=[])∨∃k c ex,x= .slice (some ⟨b,0,none⟩) ls.length c∧b<A.next∧dw A e b k (ls.flatten++ex)∧(∀l∈ls,l.length=n)∧dV c n=true∧ls.length≤bJ c
variable {A:Mem} {n b:Nat} {ls:List (List Value)}
theorem az.BR {e:TypeId} {x:Value} (hn:n<65536) (h:az A e n b ls x):iK A e n b ls x:=by
 rcases h with h|⟨k,c,h1,h2,h3,h4,h5⟩
 ·exact .inl h
 ·refine .inr ⟨k,c,[],h1,h2,by rw [qbt];exact h3,h4,?_,?_⟩
  ·rcases h5 with rfl|⟨rfl,_⟩
   ·unfold dV;rw [iT];rfl
   ·unfold dV;rw [cX,c7 hn,cond_false];exact qcJ n
  ·rcases h5 with rfl|⟨rfl,_⟩
   ·rw [gp];exact qao _
   ·rw [cD hn];exact qao _
variable {A':Mem}
theorem iK.same {e:TypeId} {x:Value} (h:iK A e n b ls x) (hn:A.next≤A'.next) (hg:b<A.next→A'.get b=A.get b):iK A' e n b ls x:=by
 rcases h with h|⟨k,c,ex,h1,h2,h3,h4⟩
 ·exact .inl h
 ·exact .inr ⟨k,c,ex,h1,qaD h2 hn,h3.same (hg h2),h4⟩
theorem iK.len {e t t':TypeId} {x:Value} (h:iK A e n b ls x) (hu:tb.ba t=some (.slice t')):aN tb .len [t] [x]= .ok (.int .i64 (ls.length:Nat)):=by
 rcases h with⟨rfl,rfl⟩|⟨k,c,ex,rfl,-⟩<;>exact eu hu
variable {i:Nat}
theorem iK.idx {e t t':TypeId} {kd:IntKind} {x:Value} (h:iK A e n b ls x) (hu:tb.ba t=some (.slice t')) (hs:aR tb t'= .ok n) (hi:i<ls.length):
 aU tb t x (.int kd (i:Int))= .ok (.pointer (some ⟨b,i*n,none⟩)):=by
 rcases h with⟨rfl,rfl⟩|⟨k,c,ex,rfl,-⟩
 ·simp at hi
 ·have hb:qax i ls.length=true:=by rw [qaH];exact hi
  have hn:kU (.int kd (i:Int))= .ok i:=rfl;unfold aU;simp only [hn,hu,hb,cond_true,hs,R.aw,h_,qa1]
variable {j:Nat}
theorem pI (h:∀l∈ls,l.length=n) (hi:i<ls.length) (hj:j<n):i*n+j<ls.flatten.length:=by
 rw [cM h];have:=qcK n (show i+1≤ls.length from hi);rw [qcl,qcG] at this;omega
variable {l:List Value} {v:Value}
theorem iK.load {e t:TypeId} {d:TypeDesc} {x:Value} (h:iK A e n b ls x) (hu:tb.ba t=some d) (ha:bQ d=false) (hi:ls[i]?=some l) (hj:l[j]?=some v) (hjn:j<n):
 ag tb A.get t (.pointer (some ⟨b,i*n+j,none⟩))= .ok v:=by
 rcases h with⟨rfl,rfl⟩|⟨k,c,ex,rfl,h2,h3,h4,-⟩
 ·simp at hi
 ·have hil:i<ls.length:=(qap.1 hi).1;exact aQ hu ha h3 (by rw [qaJ (pI h4 hil hjn),dy h4 hi hjn];exact hj)
theorem iK.aI {e t:TypeId} {d:TypeDesc} {x:Value} (h:iK A e n b ls x) (hu:tb.ba t=some d) (ha:bQ d=true) (hs:aR tb t= .ok n) (hi:ls[i]?=some l):
 ag tb A.get t (.pointer (some ⟨b,i*n,none⟩))= .ok (.agg ⟨l⟩):=by
 rcases h with⟨rfl,rfl⟩|⟨k,c,ex,rfl,h2,⟨cs,h5,h6⟩,h4,-⟩
 ·simp at hi
 ·have hl:l.length=n:=h4 l (qa0 hi);have hil:i<ls.length:=(qap.1 hi).1;have hg:cs.iu n (i*n)=some l:=fq _ _ _ _ hl fun j hj=>by
   have hlt:=pI h4 hil hj;rw [h6 (i*n+j) (by rw [qar];omega),qaJ hlt,dy h4 hi hj]
  unfold ag;simp only [h5,hu,ha,cond_true,hs,R.aw,hg]
theorem iK.self {e:TypeId} {x:Value} (h:iK A e n b ls x) (d:Nat):cG (d+1) x x=true:=by
 rcases h with⟨rfl,-⟩|⟨k,c,ex,rfl,-⟩
 ·rfl
 ·exact mN _ _ _ _
variable {m:Nat}
theorem iK.cut {e t t':TypeId} {x:Value} (h:iK A e n b ls x) (hu:tb.ba t=some (.slice t')) (hs:aR tb t'= .ok n) (hm:m≤ls.length):
 ∃x',c6 tb t x none (some (.int .i64 m)) none= .ok x'∧iK A e n b (ls.take m) x':=by
 rcases h with⟨rfl,rfl⟩|⟨k,c,ex,rfl,h2,h3,h4,h5,h6⟩
 ·have hm0:m=0:=by simpa using hm
  subst hm0;refine⟨.slice none 0 0,?_,.inl ⟨rfl,rfl⟩⟩;have e1:bound (some (.int .i64 (0:Nat))) 0 (bJ 0)= .ok 0:=fA (qaB _);unfold c6;simp only [hu,e1,R.aw,eX,hs]
 ·have hl:(ls.take m).length=m:=by rw [qaE];omega
  have e1:bound (some (.int .i64 m)) ls.length (bJ c)= .ok m:=fA (by omega);have hall:∀l∈ls.take m,l.length=n:=fun l hl=>h4 l (qbH hl)
  have hfl:ls.flatten++ex=(ls.take m).flatten++((ls.drop m).flatten++ex):=by
   rw [←qbh,←List.flatten_append,qcx]
  rw [hfl] at h3;cases hx:dN c&&qaw (bJ c) 0 with
  |true=>
   have hc1:bJ c=0:=qaL (Bool.and_eq_true_iff.1 hx).2;have hm0:m=0:=by omega
   subst hm0;refine⟨.slice (some ⟨b,0,none⟩) 0 0,?_,.inr ⟨k,0,_,by rw [hl],h2,h3,hall,rfl,by rw [hl];exact qaB _⟩⟩;unfold c6;simp only [hu,e1,R.aw,eX,hs,hx,cond_true,qbA]
  |false=>
   refine⟨.slice (some ⟨b,0,none⟩) m (gh c 0),?_,.inr ⟨k,_,_,by rw [hl],h2,h3,hall,?_,by rw [gS];omega⟩⟩
   ·unfold c6;simp only [hu,e1,R.aw,eX,hs,hx,cond_false,h5,cond_true,h_,qcN,qa8,qbA]
   ·unfold dV;unfold dV at h5;rw [jO];cases hcx:dN c with
    |true=>rfl
    |false=>
     rw [hcx,cond_false] at h5;have he:gO c=n:=qaL h5;have hlt:gO c<65536:=qbE _ (by omega);unfold gh;rw [hcx,cond_false,cond_false,c7 hlt,he];exact qcJ n
variable {y:Value}
theorem az.kY {st xt e:TypeId} {xd:TypeDesc} {i:TypeInfo} {z:List Value} {nl:List (List Value)} {x:Value} (h:az A e n b ls x) (hst:tb.ba st=some (.slice e)) (hxt:tb.ba xt=some xd) (hxd:eP xd=false) (hz:cm tb e= .ok (n,z)) (hi:tb.ty.get e=some i) (hib:0<i.bytes) (hib':i.bytes≤65536)
 (hn0:0<n) (hn1:n<65536) (hls:ls.length+m≤16777216) (hy:gP y= .ok m) (hnew:eN A.get n m y= .ok nl.flatten) (hm:nl.length=m) (hl:∀l∈nl,l.length=n) (h1c:∀v∈nl.flatten,aJ v=true):
 ∃x' A' b',bj tb A st xt x y= .ok (x',A')∧az A' e n b' (ls++nl) x'∧A.next≤A'.next∧(b'=b∨A.next≤b')∧∀y,(y=b→x= .slice none 0 0)→y<A.next→A'.get y=A.get y:=by
 subst hm;by_cases h0:nl.length=0
 ·have hnil:nl=[]:=qaP.1 h0;subst hnil;simp only [qaT,List.flatten_nil] at hy hnew;refine⟨x,A,b,?_,by rw [qbt];exact h,qao _,.inl rfl,fun _ _ _=>rfl⟩;rcases h with⟨rfl,rfl⟩|⟨k,c,rfl,h2,h3,h4,h5⟩
  ·unfold bj cO;simp only [hst,hxt,hxd,cond_false,hz,R.aw,hy,hnew];rfl
  ·have hc:ls.length≤bJ c:=by
    rcases h5 with rfl|⟨rfl,_⟩
    ·rw [gp];exact qao _
    ·rw [cD hn1];exact qao _
   have hble:qaq ls.length (bJ c)=true:=qbd hc;have hst0:∀a,dc A a []= .ok A:=fun _=>rfl
   unfold bj cO;simp only [hst,hxt,hxd,cond_false,hz,R.aw,hy,hnew,qa8,hble,cond_true,hst0]
 have hlim:(qaq (ls.length+nl.length) 16777216&&qaq i.bytes 65536&&qax 0 i.bytes&&qax 0 n&&qax n 65536)=true:=by
  have a1:qaq (ls.length+nl.length) 16777216=true:=qbd (by omega);have a2:qaq i.bytes 65536=true:=qbd hib';have a3:qax 0 i.bytes=true:=by rw [qaH];exact hib
  have a4:qax 0 n=true:=by rw [qaH];exact hn0
  have a5:qax n 65536=true:=by rw [qaH];exact hn1
  rw [a1,a2,a3,a4,a5];rfl
 have hfl:(ls++nl).flatten=ls.flatten++nl.flatten:=by simp
 have hll:(ls++nl).length=ls.length+nl.length:=qar;have fin:∀(k':Kd) (A0:Mem),A0.next=A.next→(∀y,y≠b→A0.get y=A.get y)→(k'= .row∨k'= .mark)→(∀l∈ls,l.length=n)→
  az (A0.alloc (.cells e k' 0 (T.bK .e 0 (ls.flatten++nl.flatten)))) e n A.next (ls++nl) (.slice (some ⟨A.next,0,none⟩) (ls.length+nl.length) (fQ (ls.length+nl.length) n))∧A.next≤(A0.alloc (.cells e k' 0 (T.bK .e 0 (ls.flatten++nl.flatten)))).next∧∀y,y≠b→y<A.next→(A0.alloc (.cells e k' 0 (T.bK .e 0 (ls.flatten++nl.flatten)))).get y=A.get y:=by
  intro k' A0 hn hg hk' hall;refine⟨.inr ⟨k',_,by rw [hll],by rw [ae];omega,dz ?_,fun y hy=>?_,.inr ⟨by rw [hll],hk'⟩⟩,by rw [ae,hn];omega,fun y hy hlt=>?_⟩
  ·rw [hfl,←hn];exact ax _ _
  ·rcases qbF.1 hy with h|h
   ·exact hall y h
   ·exact hl y h
  ·rw [aB (by omega),hg y hy]
 rcases h with⟨rfl,rfl⟩|⟨k,c,rfl,h2,h3,h4,h5⟩
 ·refine⟨.slice (some ⟨A.next,0,none⟩) (0+nl.length) (fQ (0+nl.length) n),A.alloc (.cells e .row 0 (T.bK .e 0 ([]++nl.flatten))),A.next,?_,?_⟩
  ·unfold bj cO;have hble:qaq (0+nl.length) (bJ 0)=false:=by
    cases hq:qaq (0+nl.length) (bJ 0) with
    |false=>rfl
    |true=>
     have hq2:=qaG hq;have:bJ 0=0:=rfl;omega
   have hx:dN 0=true:=rfl;have hel:c9 A.get n 0 none= .ok []:=rfl;simp only [qaT] at hlim;simp only [hst,hxt,hxd,cond_false,hz,R.aw,hy,hnew,hble,hi,hlim,cond_true,hel,hx]
  ·obtain⟨f1,f2,-⟩:=fin .row A rfl (fun _ _=>rfl) (.inl rfl) (fun l h=>by cases h);exact⟨f1,f2,.inr (qao _),fun y _ hy=>aB (by omega)⟩
 ·have hel:c9 A.get n ls.length (some ⟨b,0,none⟩)= .ok ls.flatten:=ep h3 (cM h4);obtain⟨cs,hb',hcs⟩:=h3;rcases h5 with rfl|⟨rfl,hk⟩
  ·have hx:dN (2*ls.length)=true:=iT _;have hcn:bJ (2*ls.length)=ls.length:=gp _;have hble:qaq (ls.length+nl.length) (bJ (2*ls.length))=false:=by
    rw [hcn];cases hq:qaq (ls.length+nl.length) ls.length with
    |false=>rfl
    |true=>have:=qaG hq;omega
   obtain⟨f1,f2,f3⟩:=fin .row A rfl (fun _ _=>rfl) (.inl rfl) h4;refine⟨_,A.alloc (.cells e .row 0 (T.bK .e 0 (ls.flatten++nl.flatten))),A.next,?_,f1,f2,.inr (qao _),fun y hy=>f3 y (fun e=>by cases hy e)⟩;unfold bj cO;simp only [hst,hxt,hxd,cond_false,hz,R.aw,hy,hnew,hble,hi,hlim,cond_true,hel,hx]
  ·have hble:qaq (ls.length+nl.length) (bJ (fQ ls.length n))=false:=by
    rw [cD hn1];cases hq:qaq (ls.length+nl.length) ls.length with
    |false=>rfl
    |true=>have:=qaG hq;omega
   have hx:dN (fQ ls.length n)=false:=cX _ _;have he:qaw (gO (fQ ls.length n)) n=true:=by rw [c7 hn1];simp
   have hall:nl.flatten.all aJ=true:=qby.2 h1c;have hfz:(qaq 0 (0+ls.length*n)&&(qaw e e&&qax 0 9223372036854775808))=true:=by
    have h0:qax 0 9223372036854775808=true:=by rw [qaH];omega
    rw [h0];simp
   obtain⟨f1,f2,f3⟩:=fin k (A.set b .dead) (aO _ _ _) (fun y hy=>by rw [aC,if_neg hy]) hk h4;refine⟨_,(A.set b .dead).alloc (.cells e k 0 (T.bK .e 0 (ls.flatten++nl.flatten))),A.next,?_,f1,f2,.inr (qao _),fun y hy=>f3 y (fun e=>by cases hy e)⟩;unfold bj cO;simp only [hst,hxt,hxd,cond_false,hz,R.aw,hy,hnew,hble,hi,hlim,cond_true,hel,hx,he,hall,qci,hb',hfz];rcases hk with rfl|rfl<;>rfl
theorem pJ (l:List Value):(l.map fun v=>[v]).flatten=l:=by
 induction l with
 |nil=>rfl
 |cons a l ih=>simp only [qbx,qb3,ih,List.singleton_append]
theorem oe.qae {e:TypeId} {x:Value} (h:oe A e b l x):az A e 1 b (l.map fun v=>[v]) x:=by
 rcases h with⟨h1,rfl⟩|⟨k,c,h1,h2,h3,h4⟩
 ·exact .inl ⟨h1,rfl⟩
 ·refine .inr ⟨k,c,by rw [qas];exact h1,h2,by rw [pJ];exact h3,fun l hl=>?_,by rw [qas];exact h4⟩;obtain⟨v,-,rfl⟩:=qa3.1 hl;rfl
theorem az.YC {e:TypeId} {x:Value} (h:az A e 1 b (l.map fun v=>[v]) x):oe A e b l x:=by
 rcases h with⟨h1,h2⟩|⟨k,c,h1,h2,h3,_,h4⟩
 ·exact .inl ⟨h1,qbk.1 h2⟩
 ·rw [qas] at h1 h4;rw [pJ] at h3;exact .inr ⟨k,c,h1,h2,h3,h4⟩
theorem oe.kY {st xt e:TypeId} {xd:TypeDesc} {i:TypeInfo} {z:List Value} {nl:List Value} {x:Value} (h:oe A e b l x) (hst:tb.ba st=some (.slice e)) (hxt:tb.ba xt=some xd) (hxd:eP xd=false) (hz:cm tb e= .ok (1,z)) (hi:tb.ty.get e=some i) (hib:0<i.bytes) (hib':i.bytes≤65536)
 (hls:l.length+m≤16777216) (hy:gP y= .ok m) (hnew:eN A.get 1 m y= .ok nl) (hm:nl.length=m) (h1c:∀v∈nl,aJ v=true):
 ∃x' A' b',bj tb A st xt x y= .ok (x',A')∧oe A' e b' (l++nl) x'∧A.next≤A'.next∧(b'=b∨A.next≤b')∧∀y,(y=b→x= .slice none 0 0)→y<A.next→A'.get y=A.get y:=by
 obtain⟨x',A',b',h1,h2,h3⟩:=h.qae.kY (nl:=nl.map fun v=>[v]) hst hxt hxd hz hi hib hib' Nat.zero_lt_one (by omega) (by rw [qas];exact hls) hy (by rw [pJ];exact hnew) (by rw [qas];exact hm) (fun l hl=>by
  obtain⟨v,-,rfl⟩:=qa3.1 hl;rfl) (by rw [pJ];exact h1c)
 rw [←qbe] at h2;exact⟨x',A',b',h1,h2.YC,h3⟩
variable {dst:Option Tmp}
theorem bW {ih:Code→St→R (Ex×St)} {ty:TypeId} {pos:String} {after:Array Edge} {g:Option (Nat×Bool)} {s:St} {k:St→R (Ex×St)} (t:TypeId) (x y:Operand) (r:TypeId) (h:lW (tb.ba t)=false):dL tb ih {dst,op:=.binOp .eql t x y r,type:=ty,pos,after,guard:=g} s k=
 (ev s.t x).bind fun a=>(ev s.t y).bind fun b=>(vY tb s.m.get .eql t x y a b).bind fun v=>bR s dst v k:=by
 rw [nq (hc:=by unfold cls;simp only [h,cond_false]) (hi:=rfl)];simp only [nX,R.a7]
theorem rZ {ih:Code→St→R (Ex×St)} {ty:TypeId} {pos:String} {after:Array Edge} {g:Option (Nat×Bool)} {s:St} {k:St→R (Ex×St)} (t:TypeId) (x y:Operand) (r:TypeId) (h:lW (tb.ba t)=false):dL tb ih {dst,op:=.binOp .neq t x y r,type:=ty,pos,after,guard:=g} s k=
 (ev s.t x).bind fun a=>(ev s.t y).bind fun b=>(vY tb s.m.get .neq t x y a b).bind fun v=>bR s dst v k:=by
 rw [nq (hc:=by unfold cls;simp only [h,cond_false]) (hi:=rfl)];simp only [nX,R.a7]
def fieldsOf:Option TypeDesc→List (Bool×TypeId×Nat)
 |some (.struct fs)=>fs.toList.map fun f=>(f.name== "_",f.type,f.offset)
 |_=>[]
def Oq:Option TypeDesc→Bool
 |some (.struct _)=>true
 |_=>false
def jF (tb:bO) (eq:TypeId→Value→Value→R Bool) (xs ys:List Value):List (Bool×TypeId×Nat)→R Bool
 | []=>.ok true
 |(n,t,o)::fs=>bif n then .no 85 else
  (jr tb t xs o).bind fun a=>(jr tb t ys o).bind fun b=>(eq t a b).bind fun
   |true=>jF tb eq xs ys fs
   |false=>.ok false
theorem xD (eq:TypeId→Value→Value→R Bool) (xs ys:List Value):∀fs:List Field,iX tb eq xs ys fs=jF tb eq xs ys (fs.map fun f=>(f.name== "_",f.type,f.offset))
 | []=>rfl
 |f::fs=>by
  have ih:=xD eq xs ys fs;show iX tb eq xs ys (f::fs)=jF tb eq xs ys ((f.name== "_",f.type,f.offset)::fs.map fun f=>(f.name== "_",f.type,f.offset));unfold iX jF;cases f.name== "_" with
  |true=>rfl
  |false=>
   simp only [cond_false];cases jr tb f.type xs f.offset with
   |no _=>rfl
   |ok a=>
    cases jr tb f.type ys f.offset with
    |no _=>rfl
    |ok b=>
     simp only [R.aw];cases eq f.type a b with
     |no _=>rfl
     |ok r=>cases r with
      |true=>exact ih
      |false=>rfl
theorem CM {g:Nat→Option Ob} {t:TypeId} {sh:List (Bool×TypeId×Nat)} (h1:Oq (tb.ba t)=true) (h2:fieldsOf (tb.ba t)=sh) (h3:tb.P.stoodInHeld t=false) (d:Nat) (xs ys:Array Value):
 eC tb g (d+1) t (.agg xs) (.agg ys)=jF tb (eC tb g d) xs.toList ys.toList sh:=by
 subst h2;unfold eC;cases hu:tb.ba t with
 |none=>rw [hu] at h1;cases h1
 |some ds=>
  cases ds with
  |struct fs=>
   simp only [h3,cond_false];rw [xD];rfl
  |_=>rw [hu] at h1;cases h1
variable {k':IntKind}
theorem K0 {g:Nat→Option Ob} {t:TypeId} {k:IntKind} (h:tb.ba t=some (.int k)) (d:Nat) (a b:Int):eC tb g (d+1) t (.int k' a) (.int k' b)= .ok (decide (a=b)):=by
 unfold eC;have hk:eD k' k'=true:=by cases k'<;>rfl
 simp only [h,hk,cond_true,lv];rfl
theorem K4 {g:Nat→Option Ob} {t:TypeId} (h:tb.ba t=some .string) (d:Nat) (a b:List UInt8):eC tb g (d+1) t (aj a) (aj b)= .ok (decide (a=b)):=by
 unfold eC;simp only [h,aj,di];congr 1;rw [qbK];simp
theorem Hq {g:Nat→Option Ob} {t:TypeId} (h:tb.ba t=some .bool) (d:Nat) (a b:Bool):eC tb g (d+1) t (.bool a) (.bool b)= .ok (decide (a=b)):=by
 unfold eC;simp only [h];cases a<;>cases b<;>rfl
variable {cs:List Value} {o:Nat}
theorem sa {t:TypeId} {d:TypeDesc} (h:tb.ba t=some d) (ha:bQ d=false) (hv:cs[o]?=some v):jr tb t cs o= .ok v:=by
 unfold jr;simp only [h,ha,cond_false,hv]
end
section
variable {tb:bO} (ok:cC tb)
def nv:Value→Bool
 | .int _ _=>true
 | .string _=>true
 | .bool _=>true
 |_=>false
variable {ι:de} {v:Value}
theorem O5 (h:nv v=true):VR ι v v:=by
 cases v<;>first|exact .int _ _|exact .string _|exact .bool _|cases h
def TT:List Value→Nat→T Value→T Value
 | [],_,c=>c
 |v::l,i,c=>TT l (i+1) (bif nv v then c.set i v else c)
def qaj:Obj→Ob
 | .cells cs t fr=>.cells t .row (2*(9223372036854775808+cs.size+fr.2+1)) (TT cs.toList 0 .e)
 |_=>.dead
def ub (w:World) (ex:List (Option Loc)) (b:Nat):Option Loc:=
 if b<w.heap.size then match w.heap[b]? with
  |some (.cells cs _ _)=>some ⟨b,0,cs.size⟩
  |_=>none
 else(ex[b-w.heap.size]?).join
variable {b:Nat}
theorem zt {w:World} {ex:List (Option Loc)} {cs:Array Value} {t:TypeId} {fr:Nat×Nat} (h:w.heap[b]?=some (.cells cs t fr)):ub w ex b=some ⟨b,0,cs.size⟩:=by
 unfold ub;rw [if_pos (qaM.1 h).1,h]
end
section
variable {tb:bO} (ok:cC tb)
def xR (g:Nat→Value→Option Value):List Value→Nat→T Value→T Value
 | [],_,c=>c
 |v::l,i,c=>xR g l (i+1) (match g i v with|some u=>c.set i u|none=>c)
theorem tI (g:Nat→Value→Option Value):∀(l:List Value) (i:Nat) (c:T Value) (j:Nat),(xR g l i c).get j=if i≤j∧j<i+l.length∧(l[j-i]?.bind (g j)).isSome=true then l[j-i]?.bind (g j) else c.get j
 | [],i,c,j=>by
  unfold xR;rw [if_neg (fun h=>by
   have:=h.2.1;simp only [qaT] at this;omega)]
 |v::l,i,c,j=>by
  unfold xR;rw [tI g l (i+1)];by_cases hj:j=i
  ·subst hj;rw [if_neg (by omega),qbq,qau,qcf];cases hp:g j v with
   |some u=>
    rw [if_pos ⟨qao _,by simp,rfl⟩];show(c.set j u).get j=_;rw [T.aH,if_pos rfl]
   |none=>rw [if_neg (fun h=>by simp at h)]
  ·have hc:(match g i v with|some u=>c.set i u|none=>c:T Value).get j=c.get j:=by
    cases g i v with
    |some u=>
     show(c.set i u).get j=_;rw [T.aH,if_neg hj]
    |none=>rfl
   rw [hc];by_cases hij:i+1≤j
   ·have e:(v::l)[j-i]?=l[j-(i+1)]?:=by
     rw [show j-i=(j-(i+1))+1 by omega,qav]
    rw [e];simp only [qaA];by_cases hx:j<i+1+l.length∧(l[j-(i+1)]?.bind (g j)).isSome=true
    ·rw [if_pos ⟨hij,hx.1,hx.2⟩,if_pos ⟨by omega,by omega,hx.2⟩]
    ·rw [if_neg (fun h=>hx h.2),if_neg (fun h=>hx ⟨by omega,h.2.2⟩)]
   ·rw [if_neg (fun h=>hij h.1),if_neg (fun h=>by omega)]
variable {l:List Value} {j:Nat}
theorem HG {g:Nat→Value→Option Value} {u:Value} (h:(xR g l 0 .e).get j=some u):∃v,l[j]?=some v∧g j v=some u:=by
 rw [tI] at h;split at h
 ·rw [qbA,Option.bind_eq_some_iff] at h;exact h
 ·rw [T.lj] at h;cases h
variable {v:Value}
theorem AY {g:Nat→Value→Option Value} {u:Value} (h:l[j]?=some v) (hp:g j v=some u):(xR g l 0 .e).get j=some u:=by
 rw [tI,qbA,h,qcf,hp,if_pos ⟨qaB _,by have:=(qap.1 h).1;omega,rfl⟩]
def Wo (g:Nat→Value→Option Value):Obj→Ob
 | .cells cs t fr=>.cells t .row (2*(9223372036854775808+cs.size+fr.2+1)) (xR g cs.toList 0 .e)
 |_=>.dead
def nZ (w:World) (n:Nat) (N:Nat→Nat→Value→Option Value):Mem:=
 ⟨T.ofList ((qbN w.heap.size).map fun b=>match w.heap[b]? with|some o=>Wo (N b) o|none=>.dead),w.heap.size+n⟩
theorem jG (w:World) (n:Nat) (N:Nat→Nat→Value→Option Value) (b:Nat):(nZ w n N).get b=(w.heap[b]?).map (Wo (N b)):=by
 show(T.ofList _).get b=_;rw [T.ir,qaN];by_cases hb:b<w.heap.size
 ·rw [qcZ hb,qa5,qdk hb];rfl
 ·rw [qbc (by simpa using hb),Array.getElem?_eq_none (by omega)];rfl
variable {b:Nat}
theorem p9 {w:World} {ex:List (Option Loc)} {N:Nat→Nat→Value→Option Value} {o:Ob} {l:Loc} (hg:(nZ w ex.length N).get b=some o) (hl:ub w ex b=some l):∃cs t fr,w.heap[b]?=some (.cells cs t fr)∧o=Wo (N b) (.cells cs t fr)∧l=⟨b,0,cs.size⟩:=by
 rw [jG] at hg;cases hb:w.heap[b]? with
 |none=>rw [hb] at hg;cases hg
 |some o'=>
  rw [hb] at hg;have hlt:=(qaM.1 hb).1;unfold ub at hl;rw [if_pos hlt,hb] at hl;cases o' with
  |cells cs t fr=>
   cases hl;exact⟨cs,t,fr,rfl,(qbo hg).symm,rfl⟩
  |_=>cases hl
def Y7 (w:World) (ex:List (Option Loc)) (N:Nat→Nat→Value→Option Value):Prop:=∀(b i:Nat) (v u:Value),N b i v=some u→VR (ub w ex) u v
theorem YP (w:World) (ex:List (Option Loc)) (hex:∀l,some l∈ex→l.blk<w.heap.size) {N:Nat→Nat→Value→Option Value} (hN:Y7 w ex N):Rel (ub w ex) (nZ w ex.length N) w:=by
 refine⟨fun b hb=>?_,fun b o l hg _ hl=>?_,fun b l hl=>?_,fun b b' l l' hb hb' hl hl' he=>?_,fun b t k c hb=>?_⟩
 ·have hb':w.heap.size+ex.length≤b:=hb;rw [jG,Array.getElem?_eq_none (by omega)];rfl
 ·obtain⟨cs,t,fr,h1,rfl,rfl⟩:=p9 hg hl;refine⟨_,h1,cs,fr,rfl,rfl,fun i u hu=>?_,?_⟩
  ·obtain⟨v,h2,h3⟩:=HG hu;rw [qaU] at h2;exact⟨v,h2,hN _ _ _ _ h3⟩
  ·show fr.2≤0+(2*(9223372036854775808+cs.size+fr.2+1));omega
 ·unfold ub at hl;split at hl
  ·rename_i hlt;split at hl
   ·cases hl;exact hlt
   ·cases hl
  ·cases hx:ex[b-w.heap.size]? with
   |none=>rw [hx] at hl;cases hl
   |some ol=>
    rw [hx] at hl;cases ol with
    |none=>cases hl
    |some l0=>
     cases hl;exact hex _ (qa0 hx)
 ·obtain⟨o,hg,_⟩:=hb;obtain⟨o',hg',_⟩:=hb';obtain⟨_,_,_,_,_,rfl⟩:=p9 hg hl;obtain⟨_,_,_,_,_,rfl⟩:=p9 hg' hl';exact he
 ·rw [jG] at hb;cases h:w.heap[b]? with
  |none=>rw [h] at hb;cases hb
  |some o=>
   rw [h] at hb;have h2:=qbo hb;cases o with
   |cells cs t' fr=>
    have h3:2*(9223372036854775808+cs.size+fr.2+1)=GB k:=by injection h2
    unfold GB at h3;omega
   |_=>cases h2
include ok in
theorem KD {w:World} (ex:List (Option Loc)) (hex:∀l,some l∈ex→l.blk<w.heap.size) {N:Nat→Nat→Value→Option Value} (hN:Y7 w ex N) {f:FuncId} {fn:Func} {c:Code} (hf:tb.fn.get f=some fn) (hb:fn.body=some c) {args:List Value} {args':Array Value} (ha:dv (ub w ex) args args'.toList)
 (hlaw:∃A',jt tb f args (nZ w ex.length N) (.bool true) A'):Calls tb.P f args' w fun e w'=>e= .returned (.bool true)∧Leaves w w':=by
 intro cs;obtain⟨A',n,hc⟩:=hlaw;obtain⟨e,w',fr,⟨ι',v',he,hv,hl⟩,st⟩:=Hg ok hc hf hb args' w (YP w ex hex hN) ha (fun b hb=>by
  have hb':w.heap.size+ex.length≤b:=hb;unfold ub;rw [if_neg (by omega),qbc (by omega)];rfl) (fun b l hb hl=>by
  obtain⟨o,hg,_⟩:=hb;obtain⟨cs,t,fr,h1,rfl,rfl⟩:=p9 hg hl;refine⟨?_,t,_,_,hg,by omega,?_⟩
  ·show b<w.heap.size+ex.length;have:=(qaM.1 h1).1;omega
  ·show cs.size<2*(9223372036854775808+cs.size+fr.2+1);omega) cs
 cases hv;exact⟨e,w',fr,⟨he,hl⟩,st⟩
def Ew:Value:=.complex .f32 0 0
open Classical in
def Af (w:World) (n:Nat) (v:Value):Option Value:=
 if nv v=true then some v else match v with
 | .slice none len cap=>if len=0∧cap=0 then some (.slice none 0 0) else none
 | .slice (some x) len cap=>
  if len=0∧cap=0 then some Ew
  else if VR (ub w []) (.slice (some ⟨x.block,x.off,none⟩) len (fQ len n)) (.slice (some x) len cap) then some (.slice (some ⟨x.block,x.off,none⟩) len (fQ len n))
  else none
 |_=>none
variable {n:Nat}
theorem wH {w:World} {u:Value} (h:Af w n v=some u):VR (ub w []) u v:=by
 unfold Af at h;split at h
 ·rename_i hp;cases h;exact O5 hp
 ·split at h
  ·split at h
   ·rename_i hh;obtain⟨rfl,rfl⟩:=hh;cases h;exact .slN
   ·cases h
  ·split at h
   ·rename_i hh;obtain⟨rfl,rfl⟩:=hh;cases h;exact .emp _
   ·split at h
    ·rename_i hh;cases h;exact hh
    ·cases h
  ·cases h
theorem pr {w:World} (h:nv v=true):Af w n v=some v:=by
 unfold Af;rw [if_pos h]
theorem IM {w:World}:Af w n (.slice none 0 0)=some (.slice none 0 0):=by
 unfold Af;rw [if_neg (by decide)];simp
theorem IL {w:World} {x:Addr}:Af w n (.slice (some x) 0 0)=some Ew:=by
 unfold Af;rw [if_neg (by simp [nv])];simp
def zJ (w:World) (n:Nat) (v:Value) (len:Nat) (cs:List Value):Prop:=
 (v= .slice none 0 0∧len=0)∨(∃x,v= .slice (some x) 0 0∧len=0)∨
 ∃x cap,v= .slice (some x) len cap∧0<cap∧len≤cap∧cap<2^63∧(∀i,i<cap*n→∃u,w.cell? (x.add i)=some u)∧cs.length=len*n∧∀(i:Nat) (c:Value),cs[i]?=some c→w.cell? (x.add i)=some c
def WY (A:Mem) (N:Nat→Nat→Value→Option Value) (n len:Nat) (cs:List Value) (x:Value):Prop:=
 (x= .slice none 0 0∧len=0)∨(x=Ew∧len=0)∨
 ∃q off,x= .slice (some ⟨q,off,none⟩) len (fQ len n)∧q<A.next∧(len*n=0∨∃t fz c,A.get q=some (.cells t .row fz c)∧∀(i:Nat) (v u:Value),i<len*n→cs[i]?=some v→N q (off+i) v=some u→c.get (off+i)=some u)
variable {i:Nat}
theorem vU {w:World} {x:Addr} (hs:x.spot=none) (h:w.cell? (x.add i)=some v):∃cs t fr,w.heap[x.block]?=some (.cells cs t fr)∧cs[x.off+i]?=some v:=by
 obtain⟨xb,xo,xs⟩:=x;simp only at hs;subst hs;rw [cH] at h;unfold World.cell? at h;split at h
 ·rename_i cs t fr hw;have hw':w.heap[xb]?=some (.cells cs t fr):=hw;simp only [qbI,qaI,if_false] at h;exact⟨cs,t,fr,hw',h⟩
 ·cases h
theorem Aw {w:World} {x:Addr} (h:w.cell? (x.add 0)=some v):x.spot=none:=by
 have h0:x.add 0=x:=rfl;rw [h0] at h;unfold World.cell? at h;split at h
 ·split at h
  ·cases h
  ·rename_i hn;cases hs:x.spot with
   |none=>rfl
   |some y=>rw [hs] at hn;simp at hn
 ·cases h
variable {cs:List Value}
theorem TV {w:World} {len:Nat} {N:Nat→Nat→Value→Option Value} (hn0:0<n) (hn:n<65536) (h:zJ w n v len cs):
 ∃x,Af w n v=some x∧WY (nZ w 0 N) N n len cs x:=by
 rcases h with⟨rfl,rfl⟩|⟨x,rfl,rfl⟩|⟨x,cap,rfl,hc0,hlc,hcap,hall,hcl,hcell⟩
 ·exact⟨_,IM,.inl ⟨rfl,rfl⟩⟩
 ·exact⟨_,IL,.inr (.inl ⟨rfl,rfl⟩)⟩
 ·have hpos:0<cap*n:=Nat.mul_pos hc0 hn0;obtain⟨u0,hu0⟩:=hall 0 hpos;have hsp:=Aw hu0;obtain⟨xb,xo,xs⟩:=x;simp only at hsp;subst hsp;have h1:bJ (fQ len n)=len:=cD hn;have h2:gO (fQ len n)=n:=c7 hn;have hnp:¬nv (.slice (some ⟨xb,xo,none⟩) len cap)=true:=by simp [nv]
  obtain⟨u,hu⟩:=hall (cap*n-1) (by omega);obtain⟨cs',t,fr,hw,hu2⟩:=vU rfl hu;have hsz:=(qaM.1 hu2).1;have hblk:xb<w.heap.size:=(qaM.1 hw).1;have hreal:VR (ub w []) (.slice (some ⟨xb,xo,none⟩) len (fQ len n)) (.slice (some ⟨xb,xo,none⟩) len cap):=by
   refine VR.slX (l:=⟨xb,0,cs'.size⟩) (o':=xo) (zt hw) (cX _ _) (by rw [h1];exact hlc) ?_ (fun _=>by simp) hcap (by rw [h1];exact qao _);rw [h2];have e:xo+(cap*n-1)<cs'.size:=hsz;show xo+cap*n≤cs'.size;omega
  refine⟨.slice (some ⟨xb,xo,none⟩) len (fQ len n),?_,.inr (.inr ⟨xb,xo,rfl,hblk,?_⟩)⟩
  ·unfold Af;rw [if_neg hnp];simp only [if_neg (show¬(len=0∧cap=0) by omega),if_pos hreal]
  ·by_cases h0:len*n=0
   ·exact .inl h0
   ·right;refine⟨t,_,_,by rw [jG,hw];rfl,fun i v u hi hv hu=>AY ?_ hu⟩;obtain⟨cs2,t2,fr2,hw2,hv2⟩:=vU rfl (hcell i v hv);rw [hw] at hw2;cases hw2;rw [qaU];exact hv2
end
section
variable {tb:bO} (ok:cC tb) {ι:de}
structure Kv where
 f:FuncId
 fn:Func
 c0:Code
 id1:Nat
 o1:Oper
 od:Oper
 c2:Code
 x:Tmp
 g:FuncId
 gf:Func
 id3:Nat
 orc:Oper
 t:Tmp
 c3:Code
structure MG (tb:bO) (D:Kv):Prop where
 hf:tb.fn.get D.f=some D.fn
 hb:D.fn.body=some (.seq D.c0 (.seq (.region D.id1 #[D.o1,D.od] false) D.c2))
 hod:D.od.op= .defer {callee:=.value (.tmp D.x),args:= #[],argTypes:= #[]}
 go1:D.o1.guard=none
 god:D.od.guard=none
 dod:D.od.dst=none
 hg:tb.fn.get D.g=some D.gf
 hgb:D.gf.body=some (.seq (.region D.id3 #[D.orc] false) D.c3)
 horc:D.orc.op= .call {callee:=.builtin .recover,args:= #[],argTypes:= #[]}
 dorc:D.orc.dst=some D.t
 gorc:D.orc.guard=none
 ht:D.t<D.gf.ntmps
 hres:D.gf.results= #[]
 hng:(D.gf.name== "runtime.NumGoroutine")=false
def O_ (tb:bO) (D:Kv) (n:Nat) (cap:List Value) (rv:Value) (A:Mem):R Mem:=
 bif qaq cap.length D.gf.ntmps then
  (exec tb n D.c3 {t:=(T.bK .e 0 cap).set D.t rv,n:=D.gf.ntmps,d:=[],m:=A,ro:=none}).bind fun(e,s)=>
  match e with
  | .kx _=>.no 710
  | .exit _=>.no 711
  |_=>eW s.d s.m
 else .no 712
def ij (tb:bO) (D:Kv) (n:Nat):List Value→Mem→R (Value×Mem):=fun args A=>
 bif qaq args.length D.fn.ntmps then
  (exec tb n D.c0 {t:=T.bK .e 0 args,n:=D.fn.ntmps,d:=[],m:=A,ro:=none}).bind fun(e0,s0)=>
  match e0 with
  | .nrm=>(dL tb (exec tb n) D.o1 s0 fun s=>.ok (.nrm,s)).bind fun(e1,s1)=>
   match e1,s1.d,s1.t.get D.x with
   | .nrm,[],some (.func (.func g') first cap)=>bif qaw g' D.g then
    (exec tb n D.c2 s1).bind fun(e2,s2)=>
    (match e2 with
     | .kx v=>match s2.d with
      | []=>R.ok (v,s2.m)
      |_=>.no 701
     | .exit _=>.no 702
     |_=>(eW s2.d s2.m).bind fun A1=>.ok (.nilIface,A1)).bind fun(rv,A1)=>
    (O_ tb D n (first.toList++cap.toList) rv A1).bind fun A2=>
    (eV tb s2.t A2.get D.fn.results.toList).bind fun vs=>.ok (oneOf vs,A2)
    else .no 703
   |_,_,_=>.no 704
  |_=>.no 705
 else .no 706
variable {fn:Func}
theorem oI {P:Program} {f:FuncId} {c:Code} (hf:P.funcs[f]?=some fn) (hb:fn.body=some c) (args:Array Value) (kd:CallKind):
 Frame.enter P f args kd=(Frame.enter P f args kd).atR ⟨args++qb9 (fn.ntmps-args.size) undef,[]⟩ [.code c]:=by
 simp [Frame.enter,Frame.atR,hf,hb]
section steps
variable {P:Program} {b:Frame} {a:Act} {k:List Item} {cs:List Frame} {w w':World} {ops:Array Oper} {i:Nat} {rest:List Nat} {o:Oper}
theorem zc {d:Deferred} (hr0:b.roundOf=none) (ho:ops[i]?=some o) (hw:Region.wanted o (yielded ops a.tmps)=true) (hr:(execOp a.eval o).run P w= .ok (.defer d) w') (hd:o.dst=none):
 step P (lone (b.atR a (.inRegion ops (i::rest)::k)) cs w)= .next (lone (b.atR {a with defers:=d::a.defers} (.inRegion ops rest::k)) cs w'):=by
 have hg:=stepGR_op (P:=P) (b:=b) (k:=k) (cs:=cs) (w:=w) (rest:=rest) ho hw;rw [hr0,Oper.semAt_none] at hg;have hfin:({b.atR a (.inRegion ops (i::rest)::k) with defers:=d::a.defers}:Frame).finish undef=b.atR {a with defers:=d::a.defers} (.inRegion ops rest::k):=by
  have:=Frame.finish_atR b {a with defers:=d::a.defers} ops i rest k undef;rw [ho] at this;simp only [qcf,hd,Act.put] at this;exact this
 refine step_lone_go ?_;rw [hg];simp [stepG.apply,hr];exact hfin
theorem qf (hr0:b.roundOf=none) (ho:ops[i]?=some o) (hw:Region.wanted o (yielded ops a.tmps)=true) (hr:(execOp a.eval o).run P w= .ok .recover w') (ht:tryRecover (b.atR a (.inRegion ops (i::rest)::k)) cs=none):
 step P (lone (b.atR a (.inRegion ops (i::rest)::k)) cs w)= .next (lone (b.atR (a.put o.dst .nilIface) (.inRegion ops rest::k)) cs w'):=by
 have hg:=stepGR_op (P:=P) (b:=b) (k:=k) (cs:=cs) (w:=w) (rest:=rest) ho hw;rw [hr0,Oper.semAt_none] at hg;have hfin:∀v,(b.atR a (.inRegion ops (i::rest)::k)).finish v=b.atR (a.put o.dst v) (.inRegion ops rest::k):=by
  intro v;rw [Frame.finish_atR,ho];rfl
 have hro:(b.atR a (.inRegion ops (i::rest)::k)).roundOf=none:=hr0;refine step_lone_go ?_;rw [hg];simp [stepG.apply,hr,hro,ht,hfin]
variable {v:Value}
theorem pg {cs':List Frame} (hr0:b.roundOf=none) (ho:ops[i]?=some o) (hw:Region.wanted o (yielded ops a.tmps)=true) (hr:(execOp a.eval o).run P w= .ok .recover w') (ht:tryRecover (b.atR a (.inRegion ops (i::rest)::k)) cs=some (v,cs')):
 step P (lone (b.atR a (.inRegion ops (i::rest)::k)) cs w)= .next (lone (b.atR (a.put o.dst v) (.inRegion ops rest::k)) cs' w'):=by
 have hg:=stepGR_op (P:=P) (b:=b) (k:=k) (cs:=cs) (w:=w) (rest:=rest) ho hw;rw [hr0,Oper.semAt_none] at hg;have hfin:∀v,(b.atR a (.inRegion ops (i::rest)::k)).finish v=b.atR (a.put o.dst v) (.inRegion ops rest::k):=by
  intro v;rw [Frame.finish_atR,ho];rfl
 have hro:(b.atR a (.inRegion ops (i::rest)::k)).roundOf=none:=hr0;refine step_lone_go ?_;rw [hg];simp [stepG.apply,hr,hro,ht,hfin]
theorem sR {fr:Frame} {d:Deferred} {ds:List Deferred} {g:FuncId} {args:Array Value} (hd:fr.defers=d::ds) (hmode:fr.mode= .returning∨∃ch,fr.mode= .panicking ch)
 (ht:∃t c,d.target= .fn t c) (hr:(invoke d.target d.args).run P w= .ok (.enter g args) w'):
 step P (lone fr cs w)= .next (lone (Frame.enter P g args .deferred) ({fr with defers:=ds}::cs) w'):=by
 obtain⟨t,c,ht⟩:=ht;obtain⟨tg,qak⟩:=d;simp only at ht hr;subst ht;refine step_lone_go ?_;rcases hmode with hm|⟨ch,hm⟩
 ·simp [stepG,unwind,hm,hd,callDeferred,hr]
 ·simp [stepG,unwind,hm,hd,callDeferred,hr]
theorem sS {fr c:Frame} (hm:fr.mode= .returning) (hd:fr.defers=[]) (hk:fr.kind= .deferred) (hf:P.funcs[fr.fn]?=some fn) (hr:(results fn fr.tmps).run P w= .ok v w):
 (c.mode= .returning→step P (lone fr (c::cs) w)= .next (lone c cs w))∧
 (∀x,c.mode= .panicking [{v:=x,recovered:=true}]→step P (lone fr (c::cs) w)= .next (lone {c with mode:=.returning} cs w)):=by
 refine⟨fun hc=>step_lone_go ?_,fun x hc=>step_lone_go ?_⟩
 ·simp [stepG,unwind,hm,hd,hf,hr,doReturn,hk,hc]
 ·simp [stepG,unwind,hm,hd,hf,hr,doReturn,hk,hc]
end steps
theorem uh {P:Program} {b:Frame} {a:Act} {e:Ex} {k:List Item} {cs:List Frame} {w:World} (hb:b.roundOf=none) (he:e= .nrm∨e= .ret) (ha:II e [] k):
 ∃todo,Steps P (lone (b.atR a k) cs w) (lone {b.atR ⟨a.tmps,a.defers⟩ todo with mode:=.returning} cs w):=by
 rcases he with rfl|rfl
 ·cases (show k=[] from ha);exact⟨[],.one (stepR_end hb)⟩
 ·obtain⟨k2,rfl⟩:=ha;exact⟨_,.one (stepR_ret hb)⟩
variable {D:Kv} (hD:MG tb D)
include ok hD in
theorem yF {n:Nat} {cap:List Value} {rv:Value} {A A2:Mem} (h:O_ tb D n cap rv A= .ok A2):
 A.next≤A2.next∧∀(ι:de) (w:World) (cap':Array Value) (rv':Value) (fr:Frame) (cs:List Frame),Rel ι A w→dv ι cap cap'.toList→VR ι rv rv'→eU ι A A2→
  (fr.mode= .returning∧rv'= .nilIface∨fr.mode= .panicking [{v:=rv',recovered:=false}])→
  ∃ι' w',Steps tb.P (lone (Frame.enter tb.P D.g cap' .deferred) (fr::cs) w) (lone {fr with mode:=.returning} cs w')∧Rel ι' A2 w'∧eH ι A w ι' A2 w':=by
 have hg':=ok.fn _ _ hD.hg;unfold O_ at h;cases hnb:qaq cap.length D.gf.ntmps with
 |false=>rw [hnb] at h;cases h
 |true=>
 rw [hnb,cond_true] at h;have hn:=qaG hnb;obtain⟨⟨e,s1⟩,h1,h2⟩:=R.ai h;have he:(e= .nrm∨e= .ret)∧eW s1.d s1.m= .ok A2:=by
  cases e with
  |kx _=>cases h2
  |exit _=>cases h2
  |nrm=>exact⟨.inl rfl,h2⟩
  |ret=>exact⟨.inr rfl,h2⟩
 obtain⟨he,h4⟩:=he;have hnx:=kr h4;rcases jS ok n _ _ _ _ h1 with⟨v,rfl,_⟩|⟨hle,hc⟩
 ·rcases he with he|he<;>cases he
 refine⟨by rw [hnx];exact hle,fun ι w cap' rv' fr cs hr ha hrv hfree hmode=>?_⟩;have hfree':eU ι A s1.m:=fun b h1 h2=>hfree b h1 (by rw [hnx];exact h2)
 have hent:=oI hg' hD.hgb cap' .deferred;have hro:(Frame.enter tb.P D.g cap' .deferred).roundOf=none:=rfl;have hkd:(Frame.enter tb.P D.g cap' .deferred).kind= .deferred:=rfl;have hdf:(Frame.enter tb.P D.g cap' .deferred).defers=[]:=rfl;have hfn:(Frame.enter tb.P D.g cap' .deferred).fn=D.g:=rfl;generalize Frame.enter tb.P D.g cap' .deferred=b at hent hro hkd hdf hfn;let a0:Act:=⟨cap'++qb9 (D.gf.ntmps-cap'.size) undef,[]⟩;have hops:(#[D.orc]:Array Oper)[0]?=some D.orc:=rfl
 have hwant:∀y,Region.wanted D.orc y=true:=fun y=>by unfold Region.wanted;rw [hD.gorc]
 have hrun:(execOp a0.eval D.orc).run tb.P w= .ok .recover w:=by
  simp only [execOp,hD.horc,resolve,Sem.run_bind,Sem.run_pure,Result.andThen_ok,invoke,builtin]
 have s0:Steps tb.P (lone b (fr::cs) w) (lone (b.atR a0 (.inRegion #[D.orc] [0]::[.code D.c3])) (fr::cs) w):=by
  rw [hent];refine .head stepR_seq (.head stepR_region ?_);exact .refl _ _
 obtain⟨fr1,s1',hfr1⟩:∃fr1,Steps tb.P (lone (b.atR a0 (.inRegion #[D.orc] [0]::[.code D.c3])) (fr::cs) w) (lone (b.atR (a0.put D.orc.dst rv') [.code D.c3]) (fr1::cs) w)∧
  (fr.mode= .returning∧fr1=fr∨fr1={fr with mode:=.panicking [{v:=rv',recovered:=true}]}):=by
  rcases hmode with⟨hm,rfl⟩|hm
  ·refine⟨fr,.head (qf hro hops (hwant _) hrun ?_) (.one stepR_region_end),.inl ⟨hm,rfl⟩⟩;simp [tryRecover,Frame.atR,hkd,hm]
  ·refine⟨_,.head (pg hro hops (hwant _) hrun ?_) (.one stepR_region_end),.inr rfl⟩;simp [tryRecover,Frame.atR,hkd,hm]
 have hs0:SR ι {t:=(T.bK .e 0 cap).set D.t rv,n:=D.gf.ntmps,d:=[],m:=A,ro:=none} b (a0.put D.orc.dst rv') w:=by
  refine⟨hr,?_,hro,?_⟩
  ·rw [hD.dorc];exact(TR.args ha hn).set hD.ht hrv
  ·rw [hD.dorc];exact hdf.symm
 obtain⟨ι1,w1,a1,k1,st1,ha1,hs1,hss1⟩:=hc ι b _ [] (fr1::cs) w hs0 hfree';obtain⟨todo,st2⟩:=uh (P:=tb.P) (a:=a1) (cs:=fr1::cs) (w:=w1) hro he ha1;obtain⟨w2,DY,hrel2,hst2⟩:=nP tb.P (b:=b) (t:=a1.tmps) (todo:=todo) (cs:=fr1::cs) h4 hs1.dr hs1.rel;obtain⟨vr,hres,-⟩:=mg ok hrel2 hs1.tr (fn:=D.gf) (vs:=[]) (by rw [hD.hres];rfl);obtain⟨e1,e2⟩:=sS (P:=tb.P) (cs:=cs) (w:=w2) (fr:={b.atR ⟨a1.tmps,b.defers⟩ todo with mode:=.returning}) (c:=fr1) (fn:=D.gf) rfl hdf hkd (by show tb.P.funcs[b.fn]?=_;rw [hfn];exact hg') hres;refine⟨ι1,w2,(((s0.trans s1').trans st1).trans st2).trans (DY.trans ?_),hrel2,hss1.stp.trans hst2⟩;rcases hfr1 with⟨hm,rfl⟩|rfl
 ·have:({fr1 with mode:=.returning}:Frame)=fr1:=by rw [←hm]
  rw [this];exact .one (e1 hm)
 ·exact .one (e2 rv' rfl)
include ok hD in
theorem Et (n:Nat):b9 tb.P D.f (ij tb D n):=by
 intro args A v A' h;have hf':=ok.fn _ _ hD.hf;have hg':=ok.fn _ _ hD.hg;have hih:=jS ok n;unfold ij at h;cases hnb:qaq args.length D.fn.ntmps with
 |false=>rw [hnb] at h;cases h
 |true=>
 rw [hnb,cond_true] at h;have hn:=qaG hnb;obtain⟨⟨e0,s0⟩,h0,h⟩:=R.ai h;cases e0 with
 |exit _=>cases h
 |ret=>cases h
 |kx _=>cases h
 |nrm=>
 obtain⟨⟨e1,s1⟩,h1,h⟩:=R.ai h;simp only at h;split at h
 case h_2=>cases h
 rename_i g' first cap hd1 hx
 cases hgg:qaw g' D.g with
 |false=>rw [hgg] at h;cases h
 |true=>
 rw [hgg,cond_true] at h;obtain rfl:=qaL hgg;obtain⟨⟨e2,s2⟩,h2,h⟩:=R.ai h;obtain⟨⟨rv,A1⟩,h3,h⟩:=R.ai h;obtain⟨A2,h4,h⟩:=R.ai h;obtain⟨vs,h5,h⟩:=R.ai h;simp only [R.ok.injEq,qat] at h;obtain⟨rfl,rfl⟩:=h;rcases hih _ _ _ _ h0 with⟨v,he,_⟩|⟨hle0,c0⟩
 ·cases he
 rcases tP ok (IY ok hih) (ops:= #[D.o1,D.od]) (i:=0) h1 with⟨v,s,he,_⟩|⟨s,he,hle1,c1⟩
 ·cases he
 cases he;have hnA2:A1.next≤A2.next:=(yF ok hD h4).1
 have hrec:=(yF ok hD h4).2;have hle2:s1.m.next≤A1.next∧A1.next=s2.m.next:=by
  rcases hih _ _ _ _ h2 with⟨v,rfl,hp⟩|hc
  ·simp only at h3;split at h3
   ·simp only [R.ok.injEq,qat] at h3;rw [←h3.2];exact⟨hp.1,rfl⟩
   ·cases h3
  ·cases e2 with
   |kx v=>
    simp only at h3;split at h3
    ·simp only [R.ok.injEq,qat] at h3;rw [←h3.2];exact⟨hc.1,rfl⟩
    ·cases h3
   |exit _=>cases h3
   |nrm=>
    obtain⟨A3,h6,h7⟩:=R.ai h3;simp only [R.ok.injEq,qat] at h7;rw [←h7.2,kr h6];exact⟨hc.1,rfl⟩
   |ret=>
    obtain⟨A3,h6,h7⟩:=R.ai h3;simp only [R.ok.injEq,qat] at h7;rw [←h7.2,kr h6];exact⟨hc.1,rfl⟩
 have hn0:A.next≤s0.m.next:=hle0
 refine⟨by omega,fun ι w args' hr ha hfree fr0 cs0=>?_⟩;have hent:=oI hf' hD.hb args' .normal;have hro:(Frame.enter tb.P D.f args' .normal).roundOf=none:=rfl;have hkd:(Frame.enter tb.P D.f args' .normal).kind= .normal:=rfl;have hdf:(Frame.enter tb.P D.f args' .normal).defers=[]:=rfl;have hfn:(Frame.enter tb.P D.f args' .normal).fn=D.f:=rfl;generalize Frame.enter tb.P D.f args' .normal=b at hent hro hkd hdf hfn;have hs:SR ι {t:=T.bK .e 0 args,n:=D.fn.ntmps,d:=[],m:=A,ro:=none} b ⟨args'++qb9 (D.fn.ntmps-args'.size) undef,[]⟩ w:=
  ⟨hr,TR.args ha hn,hro,hdf.symm⟩
 obtain⟨ι0,w0,a0,k0,st0,ha0,hs0,hss0⟩:=c0 ι b _ [.code (.seq (.region D.id1 #[D.o1,D.od] false) D.c2)] (fr0::cs0) w hs (fun x h1 h2=>hfree x h1 (by omega))
 cases (show k0=_ from ha0);have st0':Steps tb.P (lone b (fr0::cs0) w) (lone (b.atR a0 (.inRegion #[D.o1,D.od] [0,1]::[.code D.c2])) (fr0::cs0) w0):=by
  rw [hent];exact(Steps.head stepR_seq st0).trans (.head stepR_seq (.one stepR_region))
 have hw1:∀y,Region.wanted D.o1 y=true:=fun y=>by unfold Region.wanted;rw [hD.go1]
 have hw2:∀y,Region.wanted D.od y=true:=fun y=>by unfold Region.wanted;rw [hD.god]
 have hF0:eU ι0 s0.m s1.m:=eU.right (fun x h1 h2=>hfree x h1 (by have:A1.next=s2.m.next:=hle2.2;omega)) hss0.stp;obtain⟨ι1,w1,a1,st1,hs1,hss1⟩:=c1 ι0 b a0 [.code D.c2] (fr0::cs0) w0 [1] hs0 hF0 (hw1 _) rfl;obtain⟨v',hv1,hv2⟩:=hs1.tr.2 _ _ hx;cases hv2 with
 |func _ hfirst hcap=>
 rename_i first' cap' hny;have hev:a1.eval (.tmp D.x)= .func (.func D.g) first' cap':=by
  simp only [Act.eval,qdX,hv1,qbG]
 obtain⟨dt,hdt1,hdt2⟩:∃dt:Deferred,(execOp a1.eval D.od).run tb.P w1= .ok (.defer dt) w1∧(∃t c,dt.target= .fn t c)∧∀u:World,(invoke dt.target dt.args).run tb.P u= .ok (.enter D.g (first'++cap')) u:=by
  refine⟨{target:=.fn (.func D.g) cap',args:=first'++ #[]},?_,⟨_,_,rfl⟩,fun u=>?_⟩
  ·have e0:(#[]:Array Operand).map a1.eval= #[]:=by simp
   simp only [execOp,hD.hod,resolve,hev,Deferred.ofValue,Sem.run_bind,Sem.run_pure,Result.andThen_ok,e0]
  ·simp only [invoke,callFunc,Sem.run_bind,run_program,Result.andThen_ok,hg',hD.hng,hD.hgb,Option.isNone_some,qaI,if_false,Sem.run_pure,Array.append_empty]
 have hd0:a1.defers=[]:=by
  have:=hs1.dr;rw [hd1,hdf] at this;exact this
 let a2:Act:={a1 with defers:=dt::a1.defers};let b2:Frame:={b with defers:=[dt]};have st2:Steps tb.P (lone (b.atR a1 (.inRegion #[D.o1,D.od] [1]::[.code D.c2])) (fr0::cs0) w1) (lone (b2.atR a2 [.code D.c2]) (fr0::cs0) w1):=
  .head (zc hro rfl (hw2 _) hdt1 hD.dod) (.one stepR_region_end)
 have hsb:SR ι1 s1 b2 a2 w1:=⟨hs1.rel,hs1.tr,hs1.ro,by
  rw [hd1];show dt::a1.defers=[dt];rw [hd0]⟩
 have hStp1:eH ι A w ι1 s1.m w1:=hss0.stp.trans hss1.stp;have hF1:eU ι1 s1.m s2.m:=eU.right (fun x h1 h2=>hfree x h1 (by have:A1.next=s2.m.next:=hle2.2;omega)) hStp1;have hpre:=(st0'.trans st1).trans st2;have tail:∀(ι2:de) (w2:World) (a3:Act) (k3:List Item) (md:FrameMode) (rv':Value),Rel ι2 A1 w2→TR ι2 s2.n s2.t a3.tmps→eH ι1 s1.m w1 ι2 A1 w2→eK ι1 ι2→VR ι2 rv rv'→
  (md= .returning∧rv'= .nilIface∨md= .panicking [{v:=rv',recovered:=false}])→
  ∃ι' w' v',Steps tb.P (lone {b2.atR {a3 with defers:=[dt]} k3 with mode:=md} (fr0::cs0) w2) (lone (fr0.finish v') cs0 w')∧VR ι' (oneOf vs) v'∧Rel ι' A2 w'∧eH ι A w ι' A2 w':=by
  intro ι2 w2 a3 k3 md rv' hrel htr hst hle hrv hmd;have hStp2:eH ι A w ι2 A1 w2:=hStp1.trans hst;have hF2:eU ι2 A1 A2:=eU.right hfree hStp2;have hcaps:dv ι2 (first.toList++cap.toList) (first'++cap').toList:=by
   have h1:=dv.mono hle hfirst;have h2:=dv.mono hle hcap;rw [Array.toList_append];generalize first.toList=l1 at h1
   generalize first'.toList=l2 at h1;clear hfirst
   induction l1 generalizing l2 with
   |nil=>cases h1;exact h2
   |cons x l1 ih=>
    cases h1 with
    |cons hx hl=>exact .cons hx (ih _ hl)
  obtain⟨ι3,w3,DY,hrel3,hst3⟩:=hrec ι2 w2 (first'++cap') rv' {b2.atR {a3 with defers:=[]} k3 with mode:=md} (fr0::cs0) hrel hcaps hrv hF2 hmd;have stc:step tb.P (lone {b2.atR {a3 with defers:=[dt]} k3 with mode:=md} (fr0::cs0) w2)= .next (lone (Frame.enter tb.P D.g (first'++cap') .deferred) ({b2.atR {a3 with defers:=[]} k3 with mode:=md}::fr0::cs0) w2):=
   sR rfl (by
    rcases hmd with⟨rfl,_⟩|rfl
    ·exact .inl rfl
    ·exact .inr ⟨_,rfl⟩) hdt2.1 (hdt2.2 w2)
  have hle3:eK ι2 ι3:=hst3.le hF2;obtain⟨v',e1,hv⟩:=mg ok hrel3 (htr.mono hle3) (fn:=D.fn) h5;have hlv:Frame.leaving tb.P {b2.atR {a3 with defers:=[]} k3 with mode:=.returning} w3 (.returned v'):=⟨rfl,rfl,hkd,D.fn,by show tb.P.funcs[b.fn]?=_;rw [hfn];exact hf',e1⟩;exact⟨ι3,w3,v',.head stc (DY.trans (.one (step_leave_returned hlv))),hv,hrel3,hStp2.trans hst3⟩
 rcases hih _ _ _ _ h2 with⟨v,rfl,hle,hp⟩|⟨hle,hc⟩
 ·simp only at h3;split at h3
  case h_2=>cases h3
  rename_i hd2;simp only [R.ok.injEq,qat] at h3;obtain⟨rfl,rfl⟩:=h3;obtain⟨ι2,w2,a3,k3,v3,DY,hv3,hs3,hss3⟩:=hp ι1 b2 a2 [] (fr0::cs0) w1 hsb hF1;have hd3:a3.defers=[dt]:=by
   have:=hs3.dr;rw [hd2] at this;exact this
  obtain⟨ι',w',v',st4,r1,r2,r3⟩:=tail ι2 w2 a3 k3 _ v3 hs3.rel hs3.tr hss3.stp (hss3.stp.le hF1) hv3 (.inr rfl);have ea:({a3 with defers:=[dt]}:Act)=a3:=by rw [←hd3]
  rw [ea] at st4;exact⟨ι',w',v',(hpre.trans DY).trans st4,r1,r2,r3⟩
 ·have he:(e2= .nrm∨e2= .ret)∧eW s2.d s2.m= .ok A1∧rv= .nilIface:=by
   cases e2 with
   |kx v=>
    obtain⟨ι2,w2,a3,k3,_,ha,_⟩:=hc ι1 b2 a2 [] (fr0::cs0) w1 hsb hF1;exact ha.elim
   |exit _=>cases h3
   |nrm=>
    obtain⟨A3,h6,h7⟩:=R.ai h3;simp only [R.ok.injEq,qat] at h7;exact⟨.inl rfl,by rw [h6,h7.2],h7.1.symm⟩
   |ret=>
    obtain⟨A3,h6,h7⟩:=R.ai h3;simp only [R.ok.injEq,qat] at h7;exact⟨.inr rfl,by rw [h6,h7.2],h7.1.symm⟩
  obtain⟨he,h6,rfl⟩:=he;obtain⟨ι2,w2,a3,k3,DY,ha3,hs3,hss3⟩:=hc ι1 b2 a2 [] (fr0::cs0) w1 hsb hF1;obtain⟨todo,st4⟩:=uh (P:=tb.P) (b:=b2) (a:=a3) (cs:=fr0::cs0) (w:=w2) hro he ha3;obtain⟨w3,Yx,hrel3,hst3⟩:=nP tb.P (b:=b2) (t:=a3.tmps) (todo:=todo) (cs:=fr0::cs0) h6 hs3.dr hs3.rel;obtain⟨ι',w',v',st6,r1,r2,r3⟩:=tail ι2 w3 a3 todo _ .nilIface hrel3 hs3.tr (hss3.stp.trans hst3) (hss3.stp.le hF1) .nilIface (.inl ⟨rfl,rfl⟩);exact⟨ι',w',v',(((hpre.trans DY).trans st4).trans Yx).trans st6,r1,r2,r3⟩
end
section
variable {tb:bO}
def Yk (x:Value):R Value:=match x with
 | .pointer (some a)=>.ok (.pointer (some a))
 | .iface a b=>.ok (.iface a b)
 | .map a=>.ok (.map a)
 | .func (.func f) a b=>.ok (.func (.func f) a b)
 | .func (.yield f) a b=>.ok (.func (.yield f) a b)
 |_=>.no 213
theorem aF (a:Addr):Yk (.pointer (some a))= .ok (.pointer (some a)):=rfl
variable {dst:Option Tmp}
theorem ak {ih:Code→St→R (Ex×St)} {ty:TypeId} {pos:String} {after:Array Edge} {g:Option (Nat×Bool)} {s:St} {k:St→R (Ex×St)} (x:Operand):dL tb ih {dst,op:=.nilCheck x,type:=ty,pos,after,guard:=g} s k=
 (ev s.t x).bind fun a=>(Yk a).bind fun v=>bR s dst v k:=by
 rw [jb (hc:=rfl) (hi:=rfl)];simp only [tQ,R.a7];rfl
theorem Si {a b:Int} (h1:-9223372036854775808≤a+b) (h2:a+b≤9223372036854775807):aM .add .i64 a b= .ok (.int .i64 (a+b)):=by
 show R.ok (Value.int .i64 (dm .i64 (a+b)))=_;rw [eT,lV h1 h2]
theorem pY (m:Nat):∀(vs:List Value) (i:Nat) (c:T Value),(∀v∈vs,aJ v=true)→(∀j,j<vs.length→(∃y,c.get (i+j)=some y)∨i+j<m)→eJ m 0 vs i c= .ok (c.bK i vs)
 | [],_,_,_,_=>rfl
 |v::vs,i,c,h1,h2=>by
  unfold eJ;have hb:(aJ v&&qaq 0 i)=true:=by rw [h1 v (qaz ..)];simp
  have rest:eJ m 0 vs (qdi i) (c.set i v)= .ok ((c.set i v).bK (qdi i) vs):=pY m vs (i+1) (c.set i v) (fun w hw=>h1 w (qay _ hw)) fun j hj=>by
   rw [T.aH];by_cases e:i+1+j=i
   ·omega
   ·rw [if_neg e,show i+1+j=i+(j+1) by omega];exact h2 (j+1) (by simp;omega)
  rw [hb,cond_true];rcases h2 0 (by simp) with⟨y,hy⟩|hy
  ·rw [qa8] at hy;rw [hy];exact rest
  ·rw [qa8] at hy;have hlt:qax i m=true:=by rw [qaH];exact hy
   cases hc:c.get i with
   |some _=>exact rest
   |none=>simp only [hlt,cond_true];exact rest
end
section
variable {tb:bO}
variable {A:Mem} {b o:Nat} {l vs:List Value}
theorem dw.put {e:TypeId} {k:Kd} (h:dw A e b k l) (h1:∀v∈vs,aJ v=true) (h2:o+vs.length≤l.length) (h0:vs≠ []):
 ∃A',dc A ⟨b,o,none⟩ vs= .ok A'∧A'.next=A.next∧(∀x,x≠b→A'.get x=A.get x)∧∀l':List Value,l'.length=l.length→(∀j,j<l.length→l'[j]?=if o≤j∧j<o+vs.length then vs[j-o]? else l[j]?)→dw A' e b k l':=by
 obtain⟨c,h3,h4⟩:=h;have hst:eJ (Bs k) 0 vs o c= .ok (c.bK o vs):=pY _ vs o c h1 fun j hj=>.inl (by
  rw [h4 (o+j) (by omega),qan (show o+j<l.length by omega)];exact⟨_,rfl⟩)
 refine⟨A.set b (.cells e k 0 (c.bK o vs)),?_,aO _ _ _,fun x hx=>by rw [aC,if_neg hx],fun l' hl hj=>⟨_,by rw [aC,if_pos rfl],fun i hi=>?_⟩⟩
 ·cases vs with
  |nil=>exact absurd rfl h0
  |cons v vs=>
   unfold dc;simp only [h3,hst,R.aw]
 ·rw [T.dW,hj i (by omega)];split
  ·rfl
  ·exact h4 i (by omega)
variable {n i:Nat} {ls:List (List Value)}
theorem mw (h:∀x∈ls,x.length=n) (hl:l.length=n) (hi:i<ls.length) (j:Nat) (hj:j<ls.flatten.length):
 ((ls.set i l).flatten)[j]?=if i*n≤j∧j<i*n+n then l[j-i*n]? else ls.flatten[j]?:=by
 have h':∀x∈ls.set i l,x.length=n:=fun x hx=>by
  rcases qbR hx with hx|rfl
  ·exact h x hx
  ·exact hl
 rw [cM h] at hj;have hn:0<n:=Nat.pos_of_ne_zero fun e=>by rw [e] at hj;omega
 have hq:j/n<ls.length:=by rw [qdU hn];exact hj
 have hm:j % n<n:=qbE _ hn;have e:j=j/n*n+j % n:=by rw [Nat.mul_comm,Nat.div_add_mod]
 have hx:ls[j/n]?=some ls[j/n]:=qan hq;by_cases hji:j/n=i
 ·have hx':(ls.set i l)[j/n]?=some l:=by rw [hji,qbB,if_pos rfl,if_pos hi]
  rw [hji] at e;rw [if_pos ⟨by omega,by omega⟩];have:=dy h' (i:=i) (j:=j % n) (by rw [←hji];rw [hji] at hx'⊢;exact hx') hm;rw [←e] at this;rw [this];congr 1;omega
 ·have hx':(ls.set i l)[j/n]?=some ls[j/n]:=by rw [qbB,if_neg (fun h=>hji h.symm),hx]
  have g1:=dy h' hx' hm;have g2:=dy h hx hm;rw [←e] at g1 g2;rw [g1,g2,if_neg];rintro⟨h3,h4⟩;apply hji;have h5:i≤j/n:=(Nat.le_div_iff_mul_le hn).2 h3;have h6:j/n<i+1:=(qdU hn).2 (by rw [qcl,qcG];exact h4);omega
theorem az.store {e t:TypeId} {x:Value} (h:az A e n b ls x) (hs:aR tb t= .ok n) (hn:0<n) (hi:i<ls.length) (hl:l.length=n) (h1:∀v∈l,aJ v=true):
 ∃A',aW tb A t (.pointer (some ⟨b,i*n,none⟩)) (.agg ⟨l⟩)= .ok A'∧az A' e n b (ls.set i l) x∧A'.next=A.next∧∀y,y≠b→A'.get y=A.get y:=by
 rcases h with⟨rfl,rfl⟩|⟨k,c,rfl,h2,h3,h4,h5⟩
 ·simp at hi
 ·have hlen:i*n+l.length≤ls.flatten.length:=by
   rw [cM h4,hl];have:=qcK n (show i+1≤ls.length from hi);rw [qcl,qcG] at this;omega
  have h4':∀x∈ls.set i l,x.length=n:=fun x hx=>by
   rcases qbR hx with hx|rfl
   ·exact h4 x hx
   ·exact hl
  obtain⟨A',g1,g2,g3,g4⟩:=h3.put h1 hlen (fun e=>by rw [e] at hl;simp at hl;omega);refine⟨A',?_,.inr ⟨k,c,by rw [qaQ],by omega,g4 _ (by rw [cM h4',cM h4,qaQ]) fun j hj=>by rw [mw h4 hl hi j hj,hl],h4',by rw [qaQ];exact h5⟩,g2,g3⟩;unfold aW;have hc:(Value.agg ⟨l⟩).cells.toList=l:=rfl;simp only [hs,R.aw,hc,hl,qcJ,cond_true];exact g1
variable {j:Nat} {v:Value}
theorem az.field {e t:TypeId} {x:Value} (h:az A e n b ls x) (hs:aR tb t= .ok 1) (hi:ls[i]?=some l) (hj:j<n) (hv:v.cells.toList=[v]) (h1:aJ v=true):
 ∃A',aW tb A t (.pointer (some ⟨b,i*n+j,none⟩)) v= .ok A'∧az A' e n b (ls.set i (l.set j v)) x∧A'.next=A.next∧∀y,y≠b→A'.get y=A.get y:=by
 have hil:i<ls.length:=(qap.1 hi).1;rcases h with⟨rfl,rfl⟩|⟨k,c,rfl,h2,h3,h4,h5⟩
 ·simp at hil
 ·have hl:l.length=n:=h4 l (qa0 hi);have hlen:=pI h4 hil hj;have h4':∀x∈ls.set i (l.set j v),x.length=n:=fun x hx=>by
   rcases qbR hx with hx|rfl
   ·exact h4 x hx
   ·rw [qaQ];exact hl
  obtain⟨A',g1,g2,g3,g4⟩:=h3.put (o:=i*n+j) (vs:=[v]) (fun w hw=>by rw [qaY.1 hw];exact h1) (by rw [qaS];omega) (by simp);refine⟨A',?_,.inr ⟨k,c,by rw [qaQ],by omega,g4 _ (by rw [cM h4',cM h4,qaQ]) fun m hm=>?_,h4',by rw [qaQ];exact h5⟩,g2,g3⟩
  ·unfold aW;simp only [hs,R.aw,hv,qaS,qcJ,cond_true];exact g1
  ·rw [mw h4 (by rw [qaQ];exact hl) hil m hm,qaS];by_cases hin:i*n≤m∧m<i*n+n
   ·rw [if_pos hin,qbB];by_cases hmj:j=m-i*n
    ·rw [if_pos hmj,if_pos (by omega),if_pos ⟨by omega,by omega⟩];have:m-(i*n+j)=0:=by omega
     rw [this];rfl
    ·rw [if_neg hmj,if_neg (by omega)];have:=dy h4 hi (j:=m-i*n) (by omega);rw [show i*n+(m-i*n)=m by omega] at this;exact this.symm
   ·rw [if_neg hin,if_neg (by omega)]
end
section
variable {tb:bO}
def N3 (tb:bO) (fn:Func):Ex×St→R (Value×Mem)
 |(.nrm,⟨t,_,[],m,_⟩)|(.ret,⟨t,_,[],m,_⟩)=>(eV tb t m.get fn.results.toList).bind fun vs=>.ok (oneOf vs,m)
 |_=>.no 0
theorem UZ (fn:Func) (t:T Value) (n:Nat) (m:Mem) (ro:Option Nat):N3 tb fn (.ret,⟨t,n,[],m,ro⟩)=(eV tb t m.get fn.results.toList).bind fun vs=>.ok (oneOf vs,m):=rfl
theorem UY (fn:Func) (t:T Value) (n:Nat) (m:Mem) (ro:Option Nat):N3 tb fn (.nrm,⟨t,n,[],m,ro⟩)=(eV tb t m.get fn.results.toList).bind fun vs=>.ok (oneOf vs,m):=rfl
def okF (tb:bO) (f:FuncId) (fn:Func) (args:List Value):Bool:=fn.body.isSome&&(qaq args.length fn.ntmps&&(!(fn.name== "runtime.NumGoroutine")&&(tb.hk.get f).isNone))
variable {fn:Func}
theorem HS {f:FuncId} {args:List Value} (h:okF tb f fn args=true):(∃c,fn.body=some c∧fn.body.getD .skip=c)∧args.length≤fn.ntmps∧(fn.name== "runtime.NumGoroutine")=false∧tb.hk.get f=none:=by
 unfold okF at h;simp only [qaO,Option.isSome_iff_exists,qdm,Bool.not_eq_true',Option.isNone_iff_eq_none] at h;obtain⟨⟨c,hc⟩,h1,h2,h3⟩:=h;exact⟨⟨c,hc,by rw [hc];rfl⟩,h1,h2,h3⟩
variable {A A':Mem} {v:Value}
theorem aT {f:FuncId} {args:List Value} (g n:Nat) (hf:tb.fn.get f=some fn) (hk:okF tb f fn args=true)
 (h:∀M,g≤M→(exec tb (M+n) (fn.body.getD .skip) ⟨T.bK .e 0 args,fn.ntmps,[],A,none⟩).bind (N3 tb fn)= .ok (v,A')):bg tb f args A v A':=by
 obtain⟨⟨c,hc,hcd⟩,hn,hnm,hk⟩:=HS hk;rw [hcd] at h;refine⟨g+n,fun M hM=>?_⟩;obtain⟨m,rfl⟩:∃m,M=m+n:=⟨M-n,by omega⟩;have:=h m (by omega);unfold bA;simp only [hf,hc,hnm,hk,cond_false];unfold mo;rw [show qaq args.length fn.ntmps=true by rw [qdm];exact hn,cond_true];cases he:exec tb (m+n) c ⟨T.bK .e 0 args,fn.ntmps,[],A,none⟩ with
 |no _=>rw [he] at this;cases this
 |ok r=>
  rw [he,R.aw] at this;rw [R.aw];obtain⟨e,t,k,d,B,ro⟩:=r;cases d with
  |cons _ _=>cases e<;>cases this
  |nil=>
   cases e<;>first|cases this;done|skip
   all_goals
    simp only [N3] at this;simp only [eW,R.aw];cases hr:eV tb t B.get fn.results.toList with
    |no _=>rw [hr] at this;cases this
    |ok vs=>rw [hr] at this;cases this;rfl
theorem bm {f:FuncId} {args:List Value} (n:Nat) (hf:tb.fn.get f=some fn) (hk:okF tb f fn args=true)
 (h:∀M,(exec tb (M+n) (fn.body.getD .skip) ⟨T.bK .e 0 args,fn.ntmps,[],A,none⟩).bind (N3 tb fn)= .ok (v,A')):bg tb f args A v A':=aT 0 n hf hk fun M _=>h M
end
theorem i2 {a b:Prop} (x:a) (y:b):a∧b:=⟨x,y⟩
theorem XS (t:T Value):pC t []= .ok []:=rfl
theorem XR (t:T Value) (x:Operand) (xs:List Operand):pC t (x::xs)=(ev t x).bind fun v=>(pC t xs).bind fun vs=>.ok (v::vs):=rfl
theorem XN (t:T Value):EC t none= .ok none:=rfl
theorem XO (t:T Value) (x:Operand):EC t (some x)=(ev t x).bind fun v=>.ok (some v):=rfl
theorem XQ (t:T Value):Hr t []= .ok []:=rfl
theorem XP (t:T Value) (i:Nat) (x:Operand) (xs:List (Nat×Operand)):Hr t ((i,x)::xs)=(ev t x).bind fun v=>(Hr t xs).bind fun vs=>.ok ((i,v)::vs):=rfl
theorem Vx (s:St) (dst:Option Tmp) (k:St→R (Ex×St)) (v:Value) (A:Mem):O' s dst k (.val v A)=bR {s with m:=A} dst v k:=rfl
theorem Vv (s:St) (dst:Option Tmp) (k:St→R (Ex×St)) (v:Value) (A:Mem):O' s dst k (.kx v A)= .ok (.kx v,{s with m:=A}):=rfl
theorem Vt (tb:bO) (t:T Value) (g:Nat→Option Ob):eV tb t g []= .ok []:=rfl
theorem Vu (tb:bO) (t:T Value) (g:Nat→Option Ob) (i:Nat) (rs:List ResultVar):eV tb t g (.tmp i::rs)=(ev t (.tmp i)).bind fun v=>(eV tb t g rs).bind fun vs=>.ok (v::vs):=rfl
theorem Vs (tb:bO) (t:T Value) (g:Nat→Option Ob) (i:Nat) (ty:TypeId) (rs:List ResultVar):eV tb t g (.cell i ty::rs)=(ev t (.tmp i)).bind fun a=>(ag tb g ty a).bind fun v=>(eV tb t g rs).bind fun vs=>.ok (v::vs):=rfl
theorem Se:oneOf []= .tuple ⟨[]⟩:=rfl
theorem Sf (v:Value):oneOf [v]=v:=rfl
theorem Sd (a b:Value) (l:List Value):oneOf (a::b::l)= .tuple ⟨a::b::l⟩:=rfl
theorem Th (A:Mem):eW [] A= .ok A:=rfl
theorem Tg (b:Nat) (bs:List Nat) (A:Mem):eW (b::bs) A=match A.get b with|some .defd=>eW bs (A.set b .dead)|_=>.no 240:=rfl
theorem Sn (t:T Value) (a b:Operand):JN t (.bool true) a b=ev t a:=rfl
theorem Sm (t:T Value) (a b:Operand):JN t (.bool false) a b=ev t b:=rfl
theorem Hs (vs:Array Value) (i:Nat):xr (.tuple vs) i=match vs.toList[i]? with|some v=>.ok v|none=>.no 211:=rfl
theorem Tk:bL= .tuple ⟨[]⟩:=rfl
def Aq:=
 i2 @UZ<|
 i2 @UY<|
 i2 @XS<|
 i2 @XR<|
 i2 @XN<|
 i2 @XO<|
 i2 @XQ<|
 i2 @XP<|
 i2 @Vx<|
 i2 @Vv<|
 i2 @Vt<|
 i2 @Vu<|
 i2 @Vs<|
 i2 @Se<|
 i2 @Sf<|
 i2 @Sd<|
 i2 @Th<|
 i2 @Tg<|
 i2 @Sn<|
 i2 @Sm<|
 i2 @Hs<|
 i2 @cond_true.{1}<|
 i2 @cond_false.{1}<|
 i2 @T.bI<|
 i2 @T.cU<|
 i2 @rO<|
 i2 @jQ<|
 i2 @rX<|
 i2 @uw<|
 i2 @pE<|
 i2 @AH<|
 i2 @ED<|
 i2 @AG<|
 i2 @qQ<|
 i2 @uM<|
 i2 @yN<|
 i2 @Fo<|
 i2 @yf<|
 i2 @JI<|
 i2 @JM<|
 i2 @JK<|
 i2 @OZ<|
 i2 @Bc<|
 i2 @qt<|
 i2 @qs<|
 i2 @Bb<|
 i2 @Ba<|
 i2 @Be<|
 i2 @uI<|
 i2 @Fp<|
 i2 @Fm<|
 i2 @A_<|
 i2 @JJ<|
 i2 @oW<|
 i2 @qu<|
 i2 @Bf<|
 i2 @Fl<|
 i2 @JL<|
 i2 @yh<|
 i2 @uH<|
 i2 @Fk<|
 i2 @jk<|
 i2 @fe<|
 i2 @NN<|
 i2 @I7<|
 i2 @NP<|
 i2 @R.aw<|
 i2 @Bn<|
 i2 @Bm<|
 i2 @T.aH<|
 i2 @T.lj<|
 i2 @Ec<|
 i2 @Dk<|
 i2 @yq<|
 i2 @yz<|
 i2 @O1<|
 i2 @O0<|
 i2 @HW<|
 i2 @yi<|
 i2 @yx<|
 i2 @Bg<|
 i2 @Bh<|
 i2 @yo<|
 i2 @rB<|
 i2 @uj<|
 i2 @yn<|
 i2 @yp<|
 i2 @yl<|
 i2 @ui<|
 i2 @pn<|
 i2 @uf<|
 i2 @OO<|
 i2 @De<|
 i2 @Er<|
 i2 @qdh<|
 i2 @qdD<|
 i2 @if_true.{1}<|
 i2 @if_false.{1}<|
 i2 @ne_eq.{1}<|
 i2 @not_true_eq_false<|
 i2 @not_false_eq_true<|
 i2 @decide_true<|
 i2 @decide_false<|
 i2 @qaI<|
 i2 @qcj<|
 i2 @qc1<|
 i2 @Kf<|
 i2 @F'<|
 i2 @Ga<|
 i2 @BM<|
 i2 @BN<|
 i2 @BL<|
 i2 @F_<|
 i2 @BO<|
 i2 @zi<|
 i2 @zj<|
 i2 @qbG.{0}<|
 i2 @M0<|
 i2 @wK<|
 i2 @yO<|
 i2 @Bv<|
 i2 @AF<|
 i2 @yu<|
 i2 @yw<|
 i2 @ym<|
 i2 @Ee<|
 i2 @sU<|
 i2 @Kc<|
 i2 @Kb<|
 i2 @mu<|
 i2 @fh<|
 i2 @au<|
 i2 @M7<|
 i2 @M8<|
 i2 @Dj<|
 i2 @bne_self_eq_false.{0}<|
 i2 @beq_self_eq_true.{0}<|
 i2 @eq_self.{1}<|
 i2 @Ax<|
 i2 @eA<|
 i2 @builtin_append<|
 i2 @iW<|
 i2 @e9<|
 i2 @bc<|
 i2 @AE<|
 i2 @aY<|
 i2 @Lx<|
 i2 @He<|
 i2 @Em<|
 i2 @nt<|
 i2 @cT<|
 i2 @ef<|
 i2 @cL<|
 i2 @bY<|
 i2 @qbv.{0}<|
 i2 @qbf.{0}<|
 i2 @qbt.{0}<|
 @Wi
def Fq:=
 i2 @Pd<|
 i2 @VC<|
 i2 @Sv<|
 i2 @Su<|
 i2 @VA<|
 i2 @Pg<|
 i2 @Sx<|
 i2 @Pf<|
 i2 @Pe<|
 i2 @Sw<|
 i2 @MV<|
 i2 @KB<|
 i2 @pU<|
 i2 @PS<|
 i2 @PT<|
 i2 @S3<|
 i2 @PU<|
 i2 @PV<|
 i2 @S4<|
 i2 @Fw<|
 i2 @Dq<|
 i2 @Fx<|
 i2 @Dr<|
 i2 @Fy<|
 i2 @HZ<|
 i2 @O8<|
 i2 @EP<|
 i2 @KJ<|
 i2 @qcp.{0,0}<|
 i2 @qci<|
 i2 @qcs<|
 @Bool.and_self
def Wq:=
 i2 @uX<|
 i2 @zu<|
 i2 @xq<|
 i2 @xp<|
 i2 @T.aH<|
 i2 @T.lj<|
 i2 @if_true.{1}<|
 i2 @if_false.{1}<|
 i2 @zw<|
 i2 @zx<|
 i2 @cond_true.{1}<|
 i2 @cond_false.{1}<|
 i2 @qcj<|
 i2 @qc1<|
 i2 @Tk<|
 @List.toList_toArray.{0}
abbrev pw (b o:Nat):Value:=.pointer (some ⟨b,o,none⟩)
abbrev wN (n:Nat):Value:=.int .u32 n
abbrev bN (n:Nat):Value:=.int .u8 n
abbrev uN (n:Nat):Value:=.int .u64 n
abbrev iN (n:Nat):Value:=.int .i64 n
section
variable {tb:bO}
def Sq:=i2 @QL<|i2 @Ug<|i2 @T.aH<|i2 @T.bI<|i2 @T.cU<|i2 @if_true.{1}<|i2 @if_false.{1}<|i2 @and_true<| @true_and
theorem W.q {a b:Code} {s s':St} {K:Ex→St→Prop} (h:∀M,exec tb (M+20) a s= .ok (.nrm,s')) (k:W tb b s' K):W tb (.seq a b) s K:=W.seq (W.run 20 h k)
theorem W.qG {a b:Code} {s s':St} {K:Ex→St→Prop} (g:Nat) (h:∀M,g≤M→exec tb (M+20) a s= .ok (.nrm,s')) (k:W tb b s' K):W tb (.seq a b) s K:=W.seq (W.cN g 20 h k)
end
abbrev Kx:=List (List Value×Value)
def y3 (a b:List Value):Bool:=qaw a.length b.length&&(a.zip b).all fun p=>cG 100 p.1 p.2
theorem F2:∀{a b:List Value},y3 a b=true→a=b
 | [],[],_=>rfl
 | [],_::_,h=>by cases h
 |_::_,[],h=>by cases h
 |x::a,y::b,h=>by
  unfold y3 at h;rw [qaO] at h;obtain⟨h1,h2⟩:=h;rw [List.zip_cons_cons,qet,qaO] at h2;have h3:a.length=b.length:=by have:=qaL h1;simpa using this
  have h4:y3 a b=true:=by unfold y3;rw [qaO];exact⟨by rw [qcI];exact h3,h2.2⟩
  rw [j' 100 x y h2.1,F2 h4]
def qo:Kx→List Value→Option Value
 | [],_=>none
 |p::l,args=>bif y3 p.1 args then some p.2 else qo l args
theorem A6:∀{l:Kx} {args:List Value} {v:Value},qo l args=some v→(args,v)∈l
 | [],_,_,h=>by cases h
 |p::l,args,v,h=>by
  have h':(bif y3 p.1 args then some p.2 else qo l args)=some v:=h;cases hs:y3 p.1 args with
  |true=>
   rw [hs,cond_true] at h';cases h';rw [←F2 hs];exact qaz ..
  |false=>
   rw [hs,cond_false] at h';exact qay _ (A6 h')
def isVal (r:R Gp) (v:Value):Bool:=
 match r with
 | .ok (.val u _)=>cG 100 u v
 |_=>false
def JA (tb:bO) (n:Nat) (f:FuncId) (l:Kx):Bool:=l.all fun p=>p.1.all (flat 9)&&flat 9 p.2&&isVal (call tb n f p.1 dZ) p.2
variable {tb:bO} {fn:Func} {n:Nat}
theorem R9 (ok:cC tb) {f:FuncId} {c:Code} {l:Kx} (hf:tb.fn.get f=some fn) (hb:fn.body=some c) (h:JA tb n f l=true):cC (tb.qd f (aK (qo l))):=by
 refine bV ok (dP ok hf hb fun args v hv=>?_);have h1:=qby.1 h _ (A6 hv);simp only [qaO] at h1;obtain⟨⟨h2,h3⟩,h4⟩:=h1;refine⟨fun x hx=>qby.1 h2 x hx,h3,n,?_⟩;unfold isVal at h4;split at h4
 ·rename_i u A e;rw [←j' _ _ _ h4];exact⟨A,e⟩
 ·cases h4
end Go.Am
namespace Go.Proofs.YtjoceidiioppiaaGreatDoor.sto
open Go.Am
noncomputable def exts:T Nat:=((((T.e.set 180 4).set 243 5).set 244 1).set 245 3)
theorem UG:Tv 4 Tryz.f180:=⟨by kernel_rfl,by kernel_rfl,by kernel_rfl,by show Extern.find Tryz.f180=some Extern.MapsClone.clone;kernel_rfl⟩
theorem UH:Tv 5 Tryz.f243:=⟨by kernel_rfl,by kernel_rfl,by kernel_rfl,by show Extern.find Tryz.f243=(Extern.MathBitsCarry.rows[0]?).map (·.2);kernel_rfl⟩
theorem UI:Tv 1 Tryz.f244:=⟨by kernel_rfl,by kernel_rfl,by kernel_rfl,by show Extern.find Tryz.f244=some Extern.AbiNoEscape.same;kernel_rfl⟩
theorem UJ:Tv 3 Tryz.f245:=⟨by kernel_rfl,by kernel_rfl,by kernel_rfl,by show Extern.find Tryz.f245=some (Extern.BytealgMakeNoZero.makeNoZero Tryz.f245.params Tryz.f245.resultTypes);kernel_rfl⟩
theorem RC:∀f k fn,exts.get f=some k→qcO.prog.funcs[f]?=some fn→Tv k fn:=by
 intro f k fn h hf;unfold exts at h;simp only [T.aH,T.lj] at h;split at h
 ·rename_i e;subst e;cases h;cases qbo (hf.symm.trans Tryz.func245);exact UJ
 split at h
 ·rename_i e;subst e;cases h;cases qbo (hf.symm.trans Tryz.func244);exact UI
 split at h
 ·rename_i e;subst e;cases h;cases qbo (hf.symm.trans Tryz.func243);exact UH
 split at h
 ·rename_i e;subst e;cases h;cases qbo (hf.symm.trans Tryz.func180);exact UG
 cases h
noncomputable def cg:bO:=Qb qcO.prog exts
theorem fc:cC cg:=Gb qcO _ RC
variable {k:Nat} {fn:Func}
theorem bH (h:qba.funcs[k]?=some fn):cg.fn.get k=some fn:=by
 show(T.ofList qcO.prog.funcs.toList).get k=_;rw [T.ir,qaU];exact h
section
section
variable {tb:bO} {ih:Code→St→R (Ex×St)}
variable (dst:Option Tmp) (ty:TypeId) (pos:String) (after:Array Edge) (g:Option (Nat×Bool)) (s:St) (k:St→R (Ex×St))
theorem jc (t:TypeId) (r:Option Operand):dL tb ih {dst,op:=.makeMap t r,type:=ty,pos,after,guard:=g} s k=
 (EC s.t r).bind fun r=>(gB tb t r).bind fun(ob,way)=>bR {s with m:=s.m.alloc ob} dst (way.at s.m.next) k:=by
 rw [tO _ _ _ _ _ _ _ rfl rfl];simp only [DW,R.a7]
theorem fi (t:TypeId) (m x v:Operand):dL tb ih {dst,op:=.mapUpdate t m x v,type:=ty,pos,after,guard:=g} s k=
 (ev s.t m).bind fun m=>(ev s.t x).bind fun x=>(ev s.t v).bind fun v=>(c_ tb s.m t m x v).bind fun A=>bR {s with m:=A} dst bL k:=by
 unfold dL;show((HI tb s.t s.m (.mapUpdate t m x v)).bind fun(v,A)=>bR {s with m:=A} dst v k)=_;simp only [HI,R.a7,R.aw]
theorem fS (t:TypeId) (m x:Operand) (b:Bool):dL tb ih {dst,op:=.lookup t m x b,type:=ty,pos,after,guard:=g} s k=
 (ev s.t m).bind fun m=>(ev s.t x).bind fun x=>(fZ tb s.m.get t m x b).bind fun v=>bR s dst v k:=by
 rw [nq _ _ _ _ _ _ _ rfl rfl];simp only [nX,R.a7]
theorem yE (t:T Value) (g:Nat→Option Ob) (e:TypeId) (m x:Operand) (b:Bool):nX tb t g (.lookup e m x b)=(ev t m).bind fun m=>(ev t x).bind fun x=>fZ tb g e m x b:=rfl
end
theorem w9 (b:Bool):(Value.bool b).cells.toList=[.bool b]:=rfl
theorem KU (b:Option Nat):(Value.map b).cells.toList=[.map b]:=rfl
theorem dj (b:Option Addr):(Value.pointer b).cells.toList=[.pointer b]:=rfl
theorem Eb (b:Nat):Way.mp.at b= .map (some b):=rfl
variable {tb:bO}
theorem DN:cg.ba 3=some (.int .i64):=by kernel_rfl
theorem My:cg.ba 4=some .bool:=by kernel_rfl
theorem mR:cg.ba 5=some (.int .u8):=by kernel_rfl
theorem ov:cg.ba 9=some .string:=by kernel_rfl
theorem gZ:cg.ba 113=some (.int .u64):=by kernel_rfl
def Kp (A A':Mem):Prop:=A.next≤A'.next∧∀z,z<A.next→A'.get z=A.get z
theorem Kp.refl (A:Mem):Kp A A:=⟨qao _,fun _ _=>rfl⟩
variable {A B C:Mem}
theorem Kp.trans (h:Kp A B) (k:Kp B C):Kp A C:=⟨qaV h.1 k.1,fun z hz=>by rw [k.2 z (by have:=h.1;omega),h.2 z hz]⟩
theorem Kp.alloc (A:Mem) (o:Ob):Kp A (A.alloc o):=⟨by rw [ae];omega,fun z hz=>aB (by omega)⟩
def VB (A:Mem) (e:TypeId) (b:Nat) (k:Kd) (l:List Value):Prop:=b<A.next∧dw A e b k l
variable {A':Mem} {b:Nat} {l:List Value}
theorem VB.kp {e:TypeId} {k:Kd} (h:VB A e b k l) (q:Kp A A'):VB A' e b k l:=⟨qaD h.1 q.1,h.2.same (q.2 b h.1)⟩
variable {o:Nat} {v:Value}
theorem VB.ld {e t:TypeId} {d:TypeDesc} {k:Kd} (h:VB A e b k l) (hv:l[o]?=some v) (hu:tb.ba t=some d) (ha:bQ d=false):ag tb A.get t (pw b o)= .ok v:=aQ hu ha h.2 hv
def Fin (tb:bO) (fn:Func) (v:Value) (A':Mem) (e:Ex) (s:St):Prop:=(e= .nrm∨e= .ret)∧s.d=[]∧s.m=A'∧(eV tb s.t A'.get fn.results.toList).bind (fun vs=>.ok (oneOf vs))= .ok v
theorem wI {f:FuncId} {c:Code} {args:List Value} (hf:tb.fn.get f=some fn) (hb:fn.body=some c) (ho:okF tb f fn args=true)
 (h:W tb c ⟨T.bK .e 0 args,fn.ntmps,[],A,none⟩ (Fin tb fn v A')):bg tb f args A v A':=by
 obtain⟨-,hn,hnm,hk⟩:=HS ho;obtain⟨v',B,hg,rfl,rfl⟩:∃v' B,bg tb f args A v' B∧v'=v∧B=A':=by
  refine eL hf hb hn hnm hk (h.mono fun e s hs=>?_);obtain⟨h1,h2,h3,h4⟩:=hs;rw [h2,h3];cases hr:eV tb s.t A'.get fn.results.toList with
  |no _=>rw [hr] at h4;cases h4
  |ok vs=>
   rw [hr] at h4;exact⟨h1,A',vs,rfl,hr,by cases h4;rfl,rfl⟩
 exact hg
theorem wg (a b:List UInt8):uC (aj a) (aj b)=some (decide (a=b)):=by
 show some (eY a b)=_;rw [di];congr 1;by_cases h:a=b<;>simp [h]
theorem RZ (k:IntKind) (a b:Int):uC (.int k a) (.int k b)=some (decide (a=b)):=by
 show(bif eD k k then some (ou a b) else none)=_;rw [EW,show eD k k=true by cases k<;>rfl];rfl
def bB:List (List UInt8)→Nat→List MapEntry
 | [],_=>[]
 |n::ns,o=>⟨aj n,.int .i64 (o+1:Nat),o⟩::bB ns (o+1)
theorem tM (w:List UInt8):∀(ns:List (List UInt8)) (o j:Nat),findF (aj w) (bB ns o) j=some ((ns.findIdx? fun n=>decide (w=n)).map fun i=>(j+i,.int .i64 (o+i+1:Nat)))
 | [],o,j=>rfl
 |n::ns,o,j=>by
  unfold bB findF;simp only [wg,List.findIdx?_cons];by_cases h:w=n
  ·simp [h]
  ·simp only [h,decide_false,qaI,if_false];show findF _ _ (j+1)=_;rw [tM w ns (o+1) (j+1)];cases ns.findIdx? fun n=>decide (w=n) with
   |none=>rfl
   |some i=>simp [qdt,Nat.add_left_comm];omega
def dG:List Nat→Nat→List MapEntry
 | [],_=>[]
 |p::ps,o=>⟨.int .i64 (o+1:Nat),.pointer (some ⟨p,0,none⟩),o⟩::dG ps (o+1)
theorem tF (q:Nat):∀(ps:List Nat) (o j:Nat),o≤q→findF (.int .i64 (q+1:Nat)) (dG ps o) j=some ((ps[q-o]?).map fun p=>(j+(q-o),.pointer (some ⟨p,0,none⟩)))
 | [],o,j,_=>by simp [dG,findF]
 |p::ps,o,j,h=>by
  unfold dG findF;simp only [RZ];by_cases hq:q=o
  ·subst hq;simp
  ·rw [decide_eq_false (by omega)];show findF _ _ (j+1)=_;rw [tF q ps (o+1) (j+1) (by omega),show q-o=(q-(o+1))+1 by omega,qav];cases ps[q-(o+1)]? with
   |none=>rfl
   |some p=>simp only [qa5];congr 2;simp;omega
end
end Go.Proofs.YtjoceidiioppiaaGreatDoor.sto
namespace Go.Am
namespace T
variable {α:Type}
theorem Sr (x y:α):∀(f:Nat) (t:T α) (k:Nat),put x f (put y f t k) k=put x f t k:=by
 intro f
 induction f with
 |zero=>intro t k;rfl
 |succ f ih=>
  intro t k;cases t with
  |e=>
   rw [Ft,Ft];split
   ·rw [mJ,if_pos (by assumption)]
   ·split
    ·rw [mJ,if_neg (by assumption),if_pos (by assumption),ih]
    ·rw [mJ,if_neg (by assumption),if_neg (by assumption),ih]
  |n l v r=>
   rw [mJ,mJ x f k l r v];split
   ·rw [mJ,if_pos (by assumption)]
   ·split
    ·rw [mJ,if_neg (by assumption),if_pos (by assumption),ih]
    ·rw [mJ,if_neg (by assumption),if_neg (by assumption),ih]
theorem put_comm (x y:α):∀(f g:Nat) (t:T α) (k j:Nat),k≠j→put x f (put y g t j) k=put y g (put x f t k) j:=by
 intro f
 induction f with
 |zero=>intro g t k j _;rfl
 |succ f ih=>
  intro g t k j h;cases g with
  |zero=>rfl
  |succ g=>
   cases t with
   |e=>
    rw [Ft,Ft];by_cases k0:k=0<;>by_cases j0:j=0<;>by_cases k1:k % 2=1<;>by_cases j1:j % 2=1<;>
     first
     |(exfalso;omega)
     |(simp only [k0,j0,k1,j1,if_true,if_false,mJ];first|done|rfl|(rw [ih];omega)|(congr 1;try (rw [ih];omega)))
   |n l v r=>
    rw [mJ,mJ];by_cases k0:k=0<;>by_cases j0:j=0<;>by_cases k1:k % 2=1<;>by_cases j1:j % 2=1<;>
     first
     |(exfalso;omega)
     |(simp only [k0,j0,k1,j1,if_true,if_false,mJ];first|done|rfl|(rw [ih];omega)|(congr 1;try (rw [ih];omega)))
theorem set_set (t:T α) (k:Nat) (x y:α):(t.set k y).set k x=t.set k x:=Sr x y _ t k
variable {k j:Nat}
theorem set_comm (t:T α) (x y:α) (h:k≠j):(t.set j y).set k x=(t.set k x).set j y:=put_comm x y _ _ t k j h
theorem yD:∀(l:List α) (t:T α) (i k:Nat) (x:α),k<i→(t.bK i l).set k x=(t.set k x).bK i l
 | [],_,_,_,_,_=>rfl
 |y::l,t,i,k,x,h=>by
  rw [bI,bI,yD l _ (i+1) k x (by omega),set_comm _ _ _ (by omega)]
theorem Bo:∀(l l':List α) (t:T α) (i:Nat),l'.length=l.length→(t.bK i l).bK i l'=t.bK i l'
 | [],[],_,_,_=>rfl
 |x::l,y::l',t,i,h=>by
  rw [bI,bI,bI,yD _ _ _ _ _ (qbP i),set_set];exact Bo l l' _ (i+1) (by simpa using h)
theorem JR:∀(l:List α) (t:T α) (i o:Nat) (x:α),o<l.length→(t.bK i l).set (i+o) x=t.bK i (l.set o x)
 |y::l,t,i,0,x,_=>by
  rw [qa8,bI,yD _ _ _ _ _ (qbP i),set_set];rfl
 |y::l,t,i,o+1,x,h=>by
  rw [bI,show i+(o+1)=(i+1)+o by omega,JR l _ (i+1) o x (by simpa using h)];rfl
end T
theorem oZ (A:Mem) (o o':Ob):(A.alloc o).set A.next o'=A.alloc o':=by
 show Mem.mk ((A.heap.set A.next o).set A.next o') _=Mem.mk _ _;rw [T.set_set];rfl
variable {tb:bO}
variable {A:Mem} {l:List Value}
theorem xW {e t:TypeId} (hs:aR tb t= .ok l.length) (ht:(tb.ba t).map bQ=some true):ag tb (A.alloc (aa e l)).get t (.pointer (some ⟨A.next,0,none⟩))= .ok (.agg ⟨l⟩):=by
 cases hu:tb.ba t with
 |none=>rw [hu] at ht;cases ht
 |some d=>rw [hu] at ht;exact aI hu (by simpa using ht) hs (g_ A e l)
noncomputable def Ll (A:Mem):List (TypeId×List Value)→Mem
 | []=>A
 |x::l=>Ll (A.alloc (aa x.1 x.2)) l
variable {v:Value}
theorem bk {t e:TypeId} {l':List Value} (hs:aR tb t= .ok l'.length) (hc:v.cells.toList=l') (hl:l'.length=l.length) (h0:l≠ []) (h1:∀v∈l',aJ v=true):
 aW tb (A.alloc (aa e l)) t (.pointer (some ⟨A.next,0,none⟩)) v= .ok (A.alloc (aa e l')):=by
 have hg:(A.alloc (aa e l)).get A.next=some (.cells e (.var l.length) 0 (T.bK .e 0 l)):=ax _ _
 unfold aW;simp only [hs,R.aw,hc];rw [show qaw l'.length l'.length=true by rw [qcI],cond_true];unfold dc;have h0':l'≠ []:=fun h=>h0 (qaP.1 (by rw [←hl,h];rfl))
 have hst:=pY (Bs (.var l.length)) l' 0 (T.bK .e 0 l) h1 fun j hj=>.inl ⟨l[j]'(by omega),by rw [T.dW,if_pos (by omega)];simp [qan (show j<l.length by omega)]⟩
 cases l' with
 |nil=>exact absurd rfl h0'
 |cons y l'=>
  simp only [hg,hst,R.aw];rw [T.Bo _ _ _ _ hl,oZ];unfold aa;rw [hl]
variable {o:Nat}
theorem eG {t e:TypeId} (hs:aR tb t= .ok 1) (hc:v.cells.toList=[v]) (h1:aJ v=true) (ho:o<l.length):
 aW tb (A.alloc (aa e l)) t (pw A.next o) v= .ok (A.alloc (aa e (l.set o v))):=by
 have hg:(A.alloc (aa e l)).get A.next=some (.cells e (.var l.length) 0 (T.bK .e 0 l)):=ax _ _
 have hst:=pY (Bs (.var l.length)) [v] o (T.bK .e 0 l) (by simpa using h1) fun j hj=>.inl (by
  have:j=0:=by simpa using hj
  subst this;exact⟨l[o],by rw [T.dW,if_pos (by omega)];simp [qan ho]⟩)
 unfold aW;simp only [hs,R.aw,hc];show dc _ _ [v]=_;unfold dc;simp only [hg,hst,R.aw];have hp:=T.JR l .e 0 o v ho;rw [qa1] at hp;rw [T.bI,T.cU,hp,oZ];unfold aa;rw [qaQ]
end Go.Am
namespace Go.Proofs.YtjoceidiioppiaaGreatDoor.sto
open Go.Am
theorem tK (A:Mem) (x:TypeId×List Value) (l:List (TypeId×List Value)):Ll A (x::l)=Ll (A.alloc (aa x.1 x.2)) l:=rfl
theorem C9:∀(l:List (TypeId×List Value)) (A:Mem),Kp A (Ll A l)∧(Ll A l).next=A.next+l.length
 | [],A=>⟨Kp.refl A,rfl⟩
 |x::l,A=>by
  obtain⟨h1,h2⟩:=C9 l (A.alloc (aa x.1 x.2));rw [tK];exact⟨(Kp.alloc A (aa x.1 x.2)).trans h1,by rw [h2,ae,qaA];omega⟩
theorem Ju:∀(l:List (TypeId×List Value)) (A:Mem) (i:Nat) (x:TypeId×List Value),l[i]?=some x→VB (Ll A l) x.1 (A.next+i) (.var x.2.length) x.2
 |y::l,A,0,x,h=>by
  cases h;rw [tK];exact VB.kp (A:=A.alloc (aa y.1 y.2)) ⟨by rw [ae];omega,g_ A y.1 y.2⟩ (C9 l _).1
 |y::l,A,i+1,x,h=>by
  have:=Ju l (A.alloc (aa y.1 y.2)) i x h;rw [ae] at this;rw [tK,show A.next+(i+1)=A.next+1+i by omega];exact this
end Go.Proofs.YtjoceidiioppiaaGreatDoor.sto
end
