/- The abstract machine, the walk of the law and its plain laws, made small by a program; part 3: no conditions but those in each theorem. -/
import Derived.Test.YtggndfefpbmaeaaGreatDoorQ02
import Derived.Test.YtggndfefpbmaeaaGreatDoorChecked
import Derived.KernelRfl
set_option maxHeartbeats 16000000
set_option maxRecDepth 100000
set_option linter.unusedSimpArgs false
set_option linter.unusedVariables false
noncomputable section
open And renaming intro→X4
open Nat renaming ble→X5,le_refl→X9,beq→Yc,blt→Ye,zero_le→Yg,blt_eq→Yl,eq_of_beq_eq_true→Yn,lt_of_lt_of_le→Yt,le_of_ble_eq_true→Yx,zero_add→Yy,le_trans→YC,add_zero→YU,ble_eq_true_of_le→YY,min_eq_left→Y4,lt_of_le_of_lt→Y5,mod_lt→Y8,mod_eq_of_lt→Zb,sub_zero→Zd,mul_one→Zf,sub_self→Zg,lt_irrefl→Zk,lt_succ_self→Zu,not_lt_zero→ZR,min_eq_right→ZY,add_mul→qaa,beq_eq→qab,sub_add_cancel→qak,mul_le_mul_right→qaq,one_mul→qaz,zero_mul→qaE,add_assoc→qaO,succ→qaP,ble_eq→qaT,add_comm→qa4,strongRecOn→qbf,ne_of_beq_eq_false→qbi,div_lt_iff_lt_mul→qbu,max_eq_right→qbG,max_eq_left→qcc,div_le_self→qcd,beq_refl→qcf,shiftRight→qch
open List renaming getElem?_eq_getElem→X6,getElem?_cons_succ→X7,getElem?_cons_zero→X8,getElem?_eq_some_iff→X_,length_append→X',length_map→Yb,length_cons→Yf,length_eq_zero_iff→Yh,mem_cons_of_mem→Yi,mem_cons_self→Yk,getElem?_map→Yr,length_nil→Ys,take_length→Yw,getElem?_append_left→Yz,getElem?_append_right→YA,mem_of_getElem?→YF,length_set→YG,getElem?_eq_none→YR,cons_append→YT,nil_append→Y6,mem_singleton→Y7,length_singleton→Y9,append_nil→Y',all_eq_true→Ze,range→Zi,getElem?_set→Zn,mem_append→Zs,mem_or_eq_of_mem_set→Zw,getElem?_range→Z_,flatten_cons→qaR,map_nil→qbV
open Prod.mk renaming injEq→Ya
open Bool renaming false_eq_true→Yj,and_eq_true→Yq,not_true→Zo,eq_iff_iff→Zr,true_and→ZK,not_false→ZL,and_true→qau
open Array renaming getElem?_eq_some_iff→Ym,getElem?_toList→Yu,replicate→ZT,getElem?_eq_getElem→qaV,getD_eq_getD_getElem?→qbw
open Option.some renaming injEq→YB,inj→YJ
open Int renaming ofNat_eq_natCast→YD
open Option renaming map_some→YI,getD_some→Za,isSome_none→Zl,bind_some→ZZ
open Go.Proofs.Tryz renaming prog→YO,checked→qao
open UInt8 renaming ofNat→Zc,toNat_ofNat'→qaA
namespace Go.Am
section
def flat:Nat→Value→Bool
 |0,_=>false
 |d+1,v=>
  match v with
  | .bool _| .int _ _| .string _=>true
  | .agg l=>l.toList.all (flat d)
  | .tuple l=>l.toList.all (flat d)
  | .nilIface| .pointer none| .slice none 0 0| .map none| .nilFunc=>true
  | .iface _ v=>flat d v
  |_=>false
mutual
theorem BG {ι ι':da}:∀(d:Nat) (v v':Value),flat d v=true→VR ι v v'→VR ι' v v'
 |0,_,_,h,_=>by simp [flat] at h
 |d+1,v,v',h,hv=>by
  unfold flat at h;split at h
  ·cases hv;exact .bool _
  ·cases hv;exact .int _ _
  ·cases hv;exact .string _
  ·cases hv with
   |agg hs=>exact .agg (sT d _ _ (Ze.1 h) hs)
  ·cases hv with
   |tuple hs=>exact .tuple (sT d _ _ (Ze.1 h) hs)
  ·cases hv;exact .nilIface
  ·cases hv;exact .ptrN
  ·cases hv;exact .slN
  ·cases hv;exact .mapN
  ·cases hv;exact .nilFunc
  ·cases hv with
   |iface hs=>exact .iface (BG d _ _ h hs)
  ·cases h
theorem sT {ι ι':da}:∀(d:Nat) (l l':List Value),(∀v∈l,flat d v=true)→dH ι l l'→dH ι' l l'
 |_,[],_,_,h=>by cases h;exact .nil
 |d,v::l,_,hf,h=>by
  cases h with
  |cons hv ht=>exact .cons (BG d v _ (hf v (by simp)) hv) (sT d l _ (fun x hx=>hf x (by simp [hx])) ht)
end
variable {ι:da} {A:Mem} {w w':World}
theorem Ga (hr:Rel ι A w) (hl:Leaves w w') (hd:w.drawn≤w'.drawn):Rel ι A w'∧eC ι A w ι A w':=by
 refine⟨⟨hr.wf,fun b o l hg ha hb=>?_,fun b l hb=>Yt (hr.rng b l hb) hl.2.1,hr.inj,hr.gl⟩,⟨X9 _,fun _ _=>rfl,fun b l hb hll=>.inr ⟨b,l,hb,hll,rfl⟩,fun c hc _=>hl.1 c hc,hl.2.1,hl.2.2.1,hl.2.2.2.1,hl.2.2.2.2,fun b l hb _=>⟨rfl,hl.1 _ (hr.rng b l hb)⟩,hd⟩⟩;obtain⟨o',h1,h2⟩:=hr.obs b o l hg ha hb;exact⟨o',by rw [hl.1 _ (hr.rng b l hb)];exact h1,h2⟩
def aM (sp:List Value→Option Value):List Value→Mem→R (Value×Mem):=fun args A=>
 match sp args with
 |some v=>.ok (v,A)
 |none=>.no 600
variable {tb:bI} (ok:cg tb)
include ok in
theorem dP {f:FuncId} {fn:Func} {c:Code} (hf:tb.fn.get f=some fn) (hb:fn.body=some c) {sp:List Value→Option Value}
 (h:∀args v,sp args=some v→(∀x∈args,flat 9 x=true)∧flat 9 v=true∧∃n A1,call tb n f args dX= .ok (.val v A1)):b8 tb.P f (aM sp):=by
 intro args A v A' ha;unfold aM at ha;split at ha
 ·rename_i v0 hsp;simp only [R.ok.injEq,Ya] at ha;obtain⟨rfl,rfl⟩:=ha;obtain⟨hfa,hfv,n,A1,hc⟩:=h args v0 hsp;refine⟨X9 _,fun ι w args' hr hargs _ fr cs=>?_⟩;unfold call at hc;simp only [hf,hb] at hc;rcases xZ ok (jU ok n) hf hb hc with⟨_,_,h1,_⟩|⟨v,A',h1,hle,hs⟩
  ·cases h1
  ·cases h1;obtain⟨ι',w',v',⟨fr0,st,hfn,hlv⟩,hv,hrel,hst⟩:=hs (fun _=>none) w args' (fr::cs) (Xd w) (sT 9 _ _ hfa hargs) (fun _ _ _=>rfl);have hl:Leaves w w':=⟨fun c hc=>hst.fr c hc (fun b l hl _=>absurd hl (Ku b)),hst.size,hst.os,hst.tape,hst.output⟩;obtain⟨h2,h3⟩:=Ga hr hl hst.drawn;exact⟨ι,w',v',st.trans (.one (step_leave_returned hlv)),BG 9 _ _ hfv hv,h2,h3⟩
 ·cases ha
def bI.pK (tb:bI) (f:FuncId) (h:List Value→Mem→R (Value×Mem)):bI:={tb with hk:=tb.hk.set f h}
include ok in
theorem bZ {f:FuncId} {h:List Value→Mem→R (Value×Mem)} (hh:b8 tb.P f h):cg (tb.pK f h) where
 ty:=ok.ty
 fn:=ok.fn
 mixed:=ok.mixed
 ex:=ok.ex
 hk:=fun g k hg=>by
  have hg':(tb.hk.set f h).get g=some k:=hg;rw [T.af] at hg';split at hg'
  ·rename_i e;cases hg';rw [e];exact hh
  ·exact ok.hk g k hg'
end
section
variable {tb:bI} {ih:Code→St→R (Ex×St)}
theorem R.aA {α β:Type} (a:α) (f:α→R β):(R.ok a).bind f=f a:=rfl
theorem oI (n:Nat) (a b:Code) (s:St):exec tb (n+1) (.seq a b) s=(exec tb n a s).bind fun(e,s')=>match e with
 | .nrm=>exec tb n b s'
 |e=>.ok (e,s'):=rfl
theorem ny (n id:Nat) (ops:Array Oper) (s:St):exec tb (n+1) (.region id ops false) s=dV tb (exec tb n) ops.toList ops.toList s:=rfl
theorem tF (n:Nat) (s:St):exec tb (n+1) .skip s= .ok (.nrm,s):=rfl
theorem ya (n:Nat) (s:St):exec tb (n+1) .ret s= .ok (.ret,s):=rfl
theorem tz (n id:Nat) (s:St):exec tb (n+1) (.exit id) s= .ok (.exit id,s):=rfl
theorem mS (n:Nat) (c:Code) (s:St):exec tb (n+1) (.scope c) s=exec tb n c s:=rfl
theorem ia (n id:Nat) (c:Code) (s:St):exec tb (n+1) (.block id c) s=(exec tb n c s).bind fun(e,s')=>match e with
 | .exit i=>bif Yc i id then .ok (.nrm,s') else .ok (.exit i,s')
 |e=>.ok (e,s'):=rfl
theorem lq (n:Nat) (c:Operand) (a b:Code) (s:St):exec tb (n+1) (.cond c a b) s=(ev s.t c).bind fun v=>match v with
 | .bool true=>exec tb n a s
 | .bool false=>exec tb n b s
 |_=>.no 330:=rfl
theorem pB (n:Nat) (c:Code) (s:St):exec tb (n+1) (.loop c) s=(exec tb n c s).bind fun(e,s')=>match e with
 | .nrm=>exec tb n (.loop c) s'
 |e=>.ok (e,s'):=rfl
theorem yr {α:Type} (p:Bool) (x y:R α) (z:R α):(match Value.bool p with
 | .bool true=>x
 | .bool false=>y
 |_=>z)=if p=true then x else y:=by cases p<;>rfl
theorem qu (ops:List Oper) (s:St):dV tb ih ops [] s= .ok (.nrm,s):=rfl
theorem oh (ops l:List Oper) (dst:Option Tmp) (op:Op) (ty:TypeId) (pos:String) (after:Array Edge) (s:St):
 dV tb ih ops ({dst,op,type:=ty,pos,after,guard:=none}::l) s=dI tb ih {dst,op,type:=ty,pos,after,guard:=none} s (dV tb ih ops l):=rfl
section
variable (dst:Option Tmp) (ty:TypeId) (pos:String) (after:Array Edge) (g:Option (Nat×Bool)) (s:St) (k:St→R (Ex×St))
theorem yg (x:Operand):dI tb ih {dst,op:=.move x,type:=ty,pos,after,guard:=g} s k=(ev s.t x).bind fun v=>bP s dst v k:=rfl
theorem qW (x:Operand):dI tb ih {dst,op:=.assign x,type:=ty,pos,after,guard:=g} s k=(ev s.t x).bind fun v=>bP s dst v k:=rfl
theorem R.ba {α β γ:Type} (x:R α) (f:α→R β) (h:β→R γ):(x.bind f).bind h=x.bind fun a=>(f a).bind h:=by cases x<;>rfl
theorem iO {o:Op} (hc:cls tb o= .P) (hi:ie o=none):dI tb ih {dst,op:=o,type:=ty,pos,after,guard:=g} s k=(th tb s.t o).bind fun v=>bP s dst v k:=by
 unfold dI;simp only [hi,hc]
theorem mC {o:Op} (hc:cls tb o= .Rd) (hi:ie o=none):dI tb ih {dst,op:=o,type:=ty,pos,after,guard:=g} s k=(nf tb s.t s.m.get o).bind fun v=>bP s dst v k:=by
 unfold dI;simp only [hi,hc]
theorem tP {o:Op} (hc:cls tb o= .Al) (hi:ie o=none):dI tb ih {dst,op:=o,type:=ty,pos,after,guard:=g} s k=(CZ tb s.t o).bind fun(ob,way)=>bP {s with m:=s.m.alloc ob} dst (way.at s.m.next) k:=by
 unfold dI;simp only [hi,hc]
theorem Ce (op:BinOp) (t:TypeId) (x y:Operand) (r:TypeId) (hc:cls tb (.binOp op t x y r)= .P):dI tb ih {dst,op:=.binOp op t x y r,type:=ty,pos,after,guard:=g} s k=
 (ev s.t x).bind fun a=>(ev s.t y).bind fun b=>(hZ op (tb.bp t) a b).bind fun v=>bP s dst v k:=by
 rw [iO _ _ _ _ _ _ _ hc rfl];simp only [th,R.ba]
def Rm:BinOp→Bool
 | .eql| .neq=>false
 |_=>true
theorem CV (op:BinOp) (t:TypeId) (x y:Operand) (r:TypeId) (h:Rm op=true):dI tb ih {dst,op:=.binOp op t x y r,type:=ty,pos,after,guard:=g} s k=
 (ev s.t x).bind fun a=>(ev s.t y).bind fun b=>(hZ op (tb.bp t) a b).bind fun v=>bP s dst v k:=
 Ce _ _ _ _ _ _ _ _ _ _ _ _ (by cases op<;>first|rfl|cases h)
theorem Bi (t:TypeId) (x y:Operand) (r:TypeId) (h:jw (tb.bp t)=true):dI tb ih {dst,op:=.binOp .neq t x y r,type:=ty,pos,after,guard:=g} s k=
 (ev s.t x).bind fun a=>(ev s.t y).bind fun b=>(hZ .neq (tb.bp t) a b).bind fun v=>bP s dst v k:=
 Ce _ _ _ _ _ _ _ _ _ _ _ _ (by unfold cls;simp only [h,cond_true])
theorem Bq (t:TypeId) (x y:Operand) (r:TypeId) (h:jw (tb.bp t)=true):dI tb ih {dst,op:=.binOp .eql t x y r,type:=ty,pos,after,guard:=g} s k=
 (ev s.t x).bind fun a=>(ev s.t y).bind fun b=>(hZ .eql (tb.bp t) a b).bind fun v=>bP s dst v k:=
 Ce _ _ _ _ _ _ _ _ _ _ _ _ (by unfold cls;simp only [h,cond_true])
theorem FB (op:UnOp) (t:TypeId) (x:Operand):dI tb ih {dst,op:=.unOp op t x,type:=ty,pos,after,guard:=g} s k=(ev s.t x).bind fun a=>(Uw op a).bind fun v=>bP s dst v k:=by
 rw [iO _ _ _ _ _ _ _ rfl rfl];simp only [th,R.ba]
theorem tf (t:TypeId) (x y:Operand):dI tb ih {dst,op:=.index t x y,type:=ty,pos,after,guard:=g} s k=(ev s.t x).bind fun a=>(ev s.t y).bind fun b=>(mV tb t a b).bind fun v=>bP s dst v k:=by
 rw [iO _ _ _ _ _ _ _ rfl rfl];simp only [th,R.ba]
theorem kU (t:TypeId) (x:Tmp) (y:Operand):dI tb ih {dst,op:=.indexAddr t (.tmp x) y,type:=ty,pos,after,guard:=g} s k=(ev s.t (.tmp x)).bind fun a=>(ev s.t y).bind fun b=>(aZ tb t a b).bind fun v=>bP s dst v k:=by
 rw [iO _ _ _ _ _ _ _ rfl rfl];simp only [th,R.ba]
theorem kX (t:TypeId) (x:Operand) (i:Nat):dI tb ih {dst,op:=.fieldAddr t x i,type:=ty,pos,after,guard:=g} s k=(ev s.t x).bind fun a=>(ax tb t a i).bind fun v=>bP s dst v k:=by
 rw [iO _ _ _ _ _ _ _ rfl rfl];simp only [th,R.ba]
theorem tH (t:TypeId) (x:Operand) (i:Nat):dI tb ih {dst,op:=.field t x i,type:=ty,pos,after,guard:=g} s k=(ev s.t x).bind fun a=>(tU tb t a i).bind fun v=>bP s dst v k:=by
 rw [iO _ _ _ _ _ _ _ rfl rfl];simp only [th,R.ba]
theorem te (t:TypeId) (ps:Array (Nat×Operand)):dI tb ih {dst,op:=.build t ps,type:=ty,pos,after,guard:=g} s k=(Hc s.t ps.toList).bind fun ps=>(cr tb t ps).bind fun v=>bP s dst v k:=by
 rw [iO _ _ _ _ _ _ _ rfl rfl];simp only [th,R.ba]
theorem uo (t:TypeId) (x:Operand) (lo hi mx:Option Operand):dI tb ih {dst,op:=.slice t x lo hi mx,type:=ty,pos,after,guard:=g} s k=
 (ev s.t x).bind fun x=>(D_ s.t lo).bind fun lo=>(D_ s.t hi).bind fun hi=>(D_ s.t mx).bind fun mx=>(dj tb t x lo hi mx).bind fun v=>bP s dst v k:=by
 rw [iO _ _ _ _ _ _ _ rfl rfl];simp only [th,R.ba]
def xq (x:Value) (i:Nat):R Value:=
 match x with
 | .tuple vs=>match vs.toList[i]? with
  |some v=>.ok v
  |none=>.no 211
 |_=>.no 212
theorem nQ (x:Operand) (i:Nat):dI tb ih {dst,op:=.extract x i,type:=ty,pos,after,guard:=g} s k=(ev s.t x).bind fun a=>(xq a i).bind fun v=>bP s dst v k:=by
 rw [iO _ _ _ _ _ _ _ rfl rfl];simp only [th,R.ba];rfl
def HK (t:T Value) (c:Value) (a b:Operand):R Value:=
 match c with
 | .bool true=>ev t a
 | .bool false=>ev t b
 |_=>.no 207
theorem yK (c a b:Operand):dI tb ih {dst,op:=.pick c a b,type:=ty,pos,after,guard:=g} s k=(ev s.t c).bind fun c=>(HK s.t c a b).bind fun v=>bP s dst v k:=by
 rw [iO _ _ _ _ _ _ _ rfl rfl];simp only [th,R.ba];rfl
theorem ze (t:TypeId) (x:Tmp):dI tb ih {dst,op:=.load t (.tmp x),type:=ty,pos,after,guard:=g} s k=(ev s.t (.tmp x)).bind fun a=>(aq tb s.m.get t a).bind fun v=>bP s dst v k:=by
 rw [mC _ _ _ _ _ _ _ rfl rfl];simp only [nf,R.ba]
theorem uq (t:TypeId):dI tb ih {dst,op:=.alloc t,type:=ty,pos,after,guard:=g} s k=(b7 tb t).bind fun z=>bP {s with m:=s.m.alloc (aa t z.cells.toList)} dst (Way.ptr.at s.m.next) k:=by
 rw [tP _ _ _ _ _ _ _ rfl rfl];simp only [CZ,R.ba,R.aA]
theorem B3 (t:TypeId) (x:Operand):dI tb ih {dst,op:=.box t x,type:=ty,pos,after,guard:=g} s k=(ev s.t x).bind fun v=>bP {s with m:=s.m.alloc (aa t v.cells.toList)} dst (Way.ptr.at s.m.next) k:=by
 rw [tP _ _ _ _ _ _ _ rfl rfl];simp only [CZ,R.ba,R.aA]
theorem jO (t:TypeId) (len:Nat) (ps:Array (Nat×Operand)):dI tb ih {dst,op:=.buildSlice t len ps,type:=ty,pos,after,guard:=g} s k=
 (Hc s.t ps.toList).bind fun ps=>(bc tb t len ps).bind fun(ob,way)=>bP {s with m:=s.m.alloc ob} dst (way.at s.m.next) k:=by
 rw [tP _ _ _ _ _ _ _ rfl rfl];simp only [CZ,R.ba]
theorem kT (t:TypeId) (l c:Operand):dI tb ih {dst,op:=.makeSlice t l c,type:=ty,pos,after,guard:=g} s k=
 (ev s.t l).bind fun l=>(ev s.t c).bind fun c=>(eL tb t l c).bind fun(ob,way)=>bP {s with m:=s.m.alloc ob} dst (way.at s.m.next) k:=by
 rw [tP _ _ _ _ _ _ _ rfl rfl];simp only [CZ,R.ba]
theorem t_ (t:TypeId) (x v:Operand):dI tb ih {dst,op:=.store t x v,type:=ty,pos,after,guard:=g} s k=
 (ev s.t x).bind fun x=>(ev s.t v).bind fun v=>(aW tb s.m t x v).bind fun A=>bP {s with m:=A} dst cM k:=by
 unfold dI;show((Ge tb s.t s.m (.store t x v)).bind fun(v,A)=>bP {s with m:=A} dst v k)=_;simp only [Ge,R.ba,R.aA]
def isNum:Option TypeDesc→Bool
 |some (.int _)=>true
 |_=>false
theorem wT (a b:TypeId) (x:Operand) (h:isNum (tb.bp a)=true):dI tb ih {dst,op:=.convert a b x,type:=ty,pos,after,guard:=g} s k=(ev s.t x).bind fun x=>(gj tb a b x).bind fun v=>bP s dst v k:=by
 have hc:cls tb (.convert a b x)= .P:=by
  unfold cls;cases hu:tb.bp a with
  |none=>rw [hu] at h;cases h
  |some d=>
   rw [hu] at h;cases d<;>first
    |(cases h;done)
    |(simp only [hu];done)
    |(simp only [hu];cases tb.bp b with
     |none=>rfl
     |some d2=>cases d2<;>rfl)
 rw [iO _ _ _ _ _ _ _ hc rfl];simp only [th,R.ba]
theorem qf (a b:TypeId) (x:Operand) {e:TypeId} (h:tb.bp a=some .string) (h':tb.bp b=some (.slice e)):dI tb ih {dst,op:=.convert a b x,type:=ty,pos,after,guard:=g} s k=
 (ev s.t x).bind fun x=>(jt tb a b x).bind fun(ob,way)=>bP {s with m:=s.m.alloc ob} dst (way.at s.m.next) k:=by
 have hc:cls tb (.convert a b x)= .Al:=by unfold cls;simp only [h,h']
 rw [tP _ _ _ _ _ _ _ hc rfl];simp only [CZ,R.ba]
theorem iR (a b:TypeId) (x:Operand) {e:TypeId} (h:tb.bp a=some (.slice e)) (h':tb.bp b=some .string):dI tb ih {dst,op:=.convert a b x,type:=ty,pos,after,guard:=g} s k=
 (ev s.t x).bind fun x=>(cY tb s.m.get a b x).bind fun v=>bP s dst v k:=by
 have hc:cls tb (.convert a b x)= .Rd:=by unfold cls;simp only [h,h']
 rw [mC _ _ _ _ _ _ _ hc rfl];simp only [nf,R.ba]
def SJ:Option TypeDesc→Bool
 |some (.map _ _)=>true
 |_=>false
theorem B7 (args:Array Operand) (t:TypeId) (h:SJ (tb.bp t)=false):dI tb ih {dst,op:=.call {callee:=.builtin .len,args,argTypes:= #[t]},type:=ty,pos,after,guard:=g} s k=
 (oV s.t args.toList).bind fun a=>(aO tb .len [t] a).bind fun v=>bP s dst v k:=by
 have hc:cls tb (.call {callee:=.builtin .len,args,argTypes:= #[t]})= .P:=by
  unfold cls;cases hu:tb.bp t with
  |none=>simp only [hu]
  |some d=>rw [hu] at h;cases d<;>first|(simp only [hu];done)|cases h
 rw [iO _ _ _ _ _ _ _ hc rfl];simp only [th,R.ba]
theorem qq (b:Builtin) (args:Array Operand) (ts:Array TypeId) (h:b= .min∨b= .max∨b= .cap):dI tb ih {dst,op:=.call {callee:=.builtin b,args,argTypes:=ts},type:=ty,pos,after,guard:=g} s k=
 (oV s.t args.toList).bind fun a=>(aO tb b ts.toList a).bind fun v=>bP s dst v k:=by
 have hc:cls tb (.call {callee:=.builtin b,args,argTypes:=ts})= .P:=by rcases h with rfl|rfl|rfl<;>rfl
 rw [iO _ _ _ _ _ _ _ hc rfl];simp only [th,R.ba]
theorem nT (b:Builtin) (args:Array Operand) (ts:Array TypeId) (h:b= .append∨b= .copy):dI tb ih {dst,op:=.call {callee:=.builtin b,args,argTypes:=ts},type:=ty,pos,after,guard:=g} s k=
 (oV s.t args.toList).bind fun a=>(gz tb s.m b ts.toList a).bind fun(v,A)=>bP {s with m:=A} dst v k:=by
 rcases h with rfl|rfl
 all_goals
  unfold dI;show((Ge tb s.t s.m (.call _)).bind fun(v,A)=>bP {s with m:=A} dst v k)=_;simp only [Ge,R.ba]
def OQ (s:St) (dst:Option Tmp) (k:St→R (Ex×St)):Fv→R (Ex×St)
 | .val v A=>bP {s with m:=A} dst v k
 | .i_ v A=>.ok (.i_ v,{s with m:=A})
theorem yf (f:FuncId) (args:Array Operand) (ts:Array TypeId):dI tb ih {dst,op:=.call {callee:=.value (.func f),args,argTypes:=ts},type:=ty,pos,after,guard:=g} s k=
 (oV s.t args.toList).bind fun a=>(bg tb ih (.fn f a) s.m).bind fun r=>OQ s dst k r:=by
 unfold dI;show((yh tb s.t s.m.get {callee:=.value (.func f),args,argTypes:=ts}).bind fun cl=>(bg tb ih cl s.m).bind fun r=>match r with
  | .val v A=>bP {s with m:=A} dst v k
  | .i_ v A=>.ok (.i_ v,{s with m:=A}))=_
 have hcl:yh tb s.t s.m.get {callee:=.value (.func f),args,argTypes:=ts}=(oV s.t args.toList).bind fun a=>.ok (.fn f a):=by
  unfold yh;cases oV s.t args.toList with
  |no _=>rfl
  |ok a=>simp only [R.aA,ev,jl,Y6,Y']
 rw [hcl];simp only [R.ba,R.aA];cases oV s.t args.toList with
 |no _=>rfl
 |ok a=>
  simp only [R.aA];cases bg tb ih (.fn f a) s.m with
  |no _=>rfl
  |ok r=>cases r<;>rfl
end
theorem filter_none {α:Type} (l:List α):l.filter (fun _=>false)=[]:=by simp
theorem xF (A:Mem):eS [] A=A:=rfl
theorem EH (ops:List Oper):∀(l:List Oper) (i:Nat) (mems:List (Nat×Mem)) (recs:List Rec) (mks:List (Nat×Nat)) (s:St),dU tb ih ops [] l i mems recs mks s=dV tb ih ops l s
 | [],_,_,_,_,_=>rfl
 |o::l,i,mems,recs,mks,s=>by
  show((e_ ops o s.t).bind fun w=>
   bif w then
    match cls tb o.op with
    | .L=>dI tb ih o {s with m:=eS ((mks.filter fun x=>b6 x.1 i []).map (·.2)) s.m} fun s'=>
     (gF s.m.get ((mks.filter fun x=>b6 x.1 i []).map (·.2)) s'.m).bind fun A=>
     bif (recs.filter fun x=>b6 x.i i []).all (dY tb A.get) then dU tb ih ops [] l (i+1) ((i,s.m)::mems) recs mks {s' with m:=A} else .no 310
    | .Rd=>(nf tb s.t s.m.get o.op).bind fun v=>
     bif (mems.filter fun m=>b6 i m.1 []).all (fun m=>dY tb m.2.get ⟨i,s.t,o.op,v⟩) then bP s o.dst v (dU tb ih ops [] l (i+1) mems (⟨i,s.t,o.op,v⟩::recs) mks) else .no 311
    | .Al=>dI tb ih o s fun s'=>dU tb ih ops [] l (i+1) (yc s.m.next (s'.m.get s.m.next) mems) recs ((i,s.m.next)::mks) s'
    | .P=>dI tb ih o s (dU tb ih ops [] l (i+1) mems recs mks)
   else bP s o.dst cM (dU tb ih ops [] l (i+1) mems recs mks))=((e_ ops o s.t).bind fun w=>bif w then dI tb ih o s (dV tb ih ops l) else bP s o.dst cM (dV tb ih ops l))
  have e:∀i mems recs mks,dU tb ih ops [] l i mems recs mks=dV tb ih ops l:=fun i mems recs mks=>funext fun s=>EH ops l i mems recs mks s
  have hp:∀a b:Nat,b6 a b []=false:=fun _ _=>rfl
  simp only [e,hp,filter_none,qbV,xF,gF,R.aA,List.all_nil,cond_true];cases e_ ops o s.t with
  |no _=>rfl
  |ok w=>
   cases w with
   |false=>rfl
   |true=>
    simp only [R.aA,cond_true];cases hc:cls tb o.op with
    |Rd=>
     simp only
     unfold dI;have hi:ie o.op=none:=by
      cases ho:ie o.op with
      |none=>rfl
      |some c=>
       exfalso;unfold ie at ho;split at ho
       ·rename_i c' hop;rw [hop] at hc;unfold cls at hc;simp only at hc;split at hc
        ·rename_i hb;rw [hb] at ho;simp at ho
        ·cases hc
       ·cases ho
     simp only [hi,hc]
    |_=>rfl
def Ea (tb:bI) (ops:List Oper):Bool:=
 match gR tb ops with
 | .ok []=>true
 |_=>false
variable {n:Nat} {ops:Array Oper}
theorem ug {id:Nat} {s:St} (h:Ea tb ops.toList=true):exec tb (n+1) (.region id ops true) s=(dV tb (exec tb n) ops.toList ops.toList s).bind fun(e,s)=>match e with
 | .nrm=>.ok (.nrm,s)
 |_=>.no 312:=by
 have h':gR tb ops.toList= .ok []:=by
  unfold Ea at h;split at h
  ·assumption
  ·cases h
 show((gR tb ops.toList).bind fun fl=>(dU tb (exec tb n) ops.toList fl ops.toList 0 [] [] [] s).bind fun(e,s)=>_)=_;rw [h'];simp only [R.aA,EH];rfl
theorem tW (s:St) (v:Value) (k:St→R (Ex×St)):bP s none v k=k s:=rfl
variable {t:T Value} {i:Nat} {v:Value}
theorem tw {d:List Nat} {m:Mem} {ro:Option Nat} {k:St→R (Ex×St)} (h:i<n):bP ⟨t,n,d,m,ro⟩ (some i) v k=k ⟨t.set i v,n,d,m,ro⟩:=by
 rw [Iz (by simpa using h)];rfl
theorem Ha (b:Nat):Way.ptr.at b= .pointer (some ⟨b,0,none⟩):=rfl
theorem ue (b len cap:Nat):(Way.m_ len cap).at b= .slice (some ⟨b,0,none⟩) len cap:=rfl
theorem qK {ops l:List Oper} {o:Oper} {s:St} (h:e_ ops o s.t= .ok true):dV tb ih ops (o::l) s=dI tb ih o s (dV tb ih ops l):=by
 show((e_ ops o s.t).bind fun w=>bif w then dI tb ih o s (dV tb ih ops l) else bP s o.dst cM (dV tb ih ops l))=_;rw [h];rfl
theorem uh {ops l:List Oper} {o:Oper} {s:St} (h:e_ ops o s.t= .ok false):dV tb ih ops (o::l) s=bP s o.dst cM (dV tb ih ops l):=by
 show((e_ ops o s.t).bind fun w=>bif w then dI tb ih o s (dV tb ih ops l) else bP s o.dst cM (dV tb ih ops l))=_;rw [h];rfl
def EK (want:Bool) (v:Option Value):R Bool:=
 match v with
 |some (.bool b)=>.ok (bif b then want else !want)
 |some (.tuple _)=>.ok false
 |some _=>.no 257
 |none=>.no 253
def yR:List Oper→Nat→Option Tmp
 | [],_=>none
 |o::_,0=>o.dst
 |_::l,n+1=>yR l n
theorem qs (o:Oper) (l:List Oper):yR (o::l) 0=o.dst:=rfl
theorem qJ (o:Oper) (l:List Oper) (n:Nat):yR (o::l) (n+1)=yR l n:=rfl
theorem Dt:∀(l:List Oper) (j:Nat) (d:Tmp),yR l j=some d→∃o,l[j]?=some o∧o.dst=some d
 | [],_,_,h=>by cases h
 |o::_,0,_,h=>⟨o,rfl,h⟩
 |_::l,n+1,d,h=>by
  obtain⟨o,h1,h2⟩:=Dt l n d h;exact⟨o,by simpa using h1,h2⟩
def O1 (ops:List Oper) (o:Oper) (want:Bool) (t:T Value) (d:Option Tmp):R Bool:=
 match d with
 |some d=>EK want (t.get d)
 |none=>e_ ops o t
theorem nX (ops:List Oper) (dst:Option Tmp) (op:Op) (ty:TypeId) (pos:String) (after:Array Edge) (j:Nat) (want:Bool) (t:T Value):
 e_ ops {dst,op,type:=ty,pos,after,guard:=some (j,want)} t=O1 ops {dst,op,type:=ty,pos,after,guard:=some (j,want)} want t (yR ops j):=by
 cases hd:yR ops j with
 |none=>rfl
 |some d=>
  obtain⟨o,h1,h2⟩:=Dt ops j d hd;unfold e_ O1 EK;simp only [h1,h2];rfl
theorem qk (ops:List Oper) (o:Oper) (want:Bool) (t:T Value) (d:Tmp):O1 ops o want t (some d)=EK want (t.get d):=rfl
theorem qN (want b:Bool):EK want (some (.bool b))= .ok (bif b then want else !want):=rfl
theorem qz (want:Bool) (x:Array Value):EK want (some (.tuple x))= .ok false:=rfl
def XB (v:Option Value):R Value:=
 match v with
 |some v=>.ok v
 |none=>.no 200
theorem fR (t:T Value) (i:Nat):ev t (.tmp i)=XB (t.get i):=rfl
theorem dA (v:Value):XB (some v)= .ok v:=rfl
theorem Hp (t:T Value) (k:IntKind) (n:Nat):ev t (.const (.int k (no_index (OfNat.ofNat n))))= .ok (.int k ((OfNat.ofNat n:Nat):Int)):=rfl
theorem CO (t:T Value) (b:Bool):ev t (.const (.bool b))= .ok (.bool b):=rfl
theorem xn {op:BinOp} {d:Option TypeDesc} {k:IntKind} {a b:Int} (h1:op≠ .shl) (h2:op≠ .shr):hZ op d (.int k a) (.int k b)=aN op k a b:=by
 have hk:dS k k=true:=by cases k<;>rfl
 unfold hZ;cases op<;>first|exact absurd rfl h1|exact absurd rfl h2|(simp only [hk,cond_true])
variable {b:Nat}
theorem tp {k:IntKind} {a:Nat} (h:0<b):aN .rem k (a:Int) (b:Int)= .ok (.int k ((a % b:Nat):Int)):=by
 obtain⟨c,rfl⟩:∃c,b=c+1:=⟨b-1,by omega⟩;rfl
theorem oY (h:n<4294967296):iy .u32 (n:Int)=true:=by
 show Ye n 4294967296=true;rw [Yl];exact h
theorem iV (h:n<256):iy .u8 (n:Int)=true:=by
 show Ye n 256=true;rw [Yl];exact h
theorem aR (h:n<9223372036854775808):iy .i64 (n:Int)=true:=by
 show Ye n 9223372036854775808=true;rw [Yl];exact h
theorem qm {a:Nat} (h:0<b) (ha:a<4294967296):aN .quo .u32 (a:Int) (b:Int)= .ok (.int .u32 (a/b:Nat)):=by
 obtain⟨c,rfl⟩:∃c,b=c+1:=⟨b-1,by omega⟩;show R.ok (Value.int .u32 (dg .u32 ((a/(c+1):Nat):Int)))=_;unfold dg;rw [oY (Y5 (qcd ..) ha)];rfl
theorem qT {a:Nat} (ha:a<4294967296) (hb:b<4294967296):aN .xor .u32 (a:Int) (b:Int)= .ok (.int .u32 (a^^^b:Nat)):=by
 show(bif iy .u32 (a:Int)&&iy .u32 (b:Int) then R.ok (Value.int .u32 (a^^^b:Nat)) else .no 12)=_;rw [oY ha,oY hb];rfl
theorem Hd {k:IntKind} {a:Nat}:aN .neq k (a:Int) (b:Int)= .ok (.bool (decide (a≠b))):=by
 show R.ok (Value.bool (!Yc a b))=_;congr 2;cases h:Yc a b with
 |true=>simp [Yn h]
 |false=>simp [qbi h]
theorem Bz {k:IntKind} {a:Nat}:aN .lss k (a:Int) (b:Int)= .ok (.bool (decide (a<b))):=by
 show R.ok (Value.bool (Ye a b))=_;congr 2;rw [Zr];simp [Yl]
theorem qL {a:Nat} (h:a+b<9223372036854775808):aN .add .i64 (a:Int) (b:Int)= .ok (.int .i64 (a+b:Nat)):=by
 show R.ok (Value.int .i64 (dg .i64 ((a+b:Nat):Int)))=_;unfold dg;rw [aR h];rfl
end
section
variable {tb:bI} {ih:Code→St→R (Ex×St)}
theorem k_ (n:Nat):dg .u8 (n:Int)=((n % 256:Nat):Int):=by
 rw [eF];simp [IntKind.wrap,IntKind.signed,IntKind.bits]
theorem pk (n:Nat):dg .u32 (n:Int)=((n % 4294967296:Nat):Int):=by
 rw [eF];simp [IntKind.wrap,IntKind.signed,IntKind.bits]
variable {n:Nat}
theorem tD (h:n<9223372036854775808):dg .i64 (n:Int)=(n:Int):=by
 unfold dg;rw [aR h];rfl
theorem Gr (h:n<256):n % 256=n:=Zb h
theorem wo (h:n<4294967296):n % 4294967296=n:=Zb h
variable {b:Nat}
theorem ud {a:Nat} (ha:a<256) (hb:b<256):aN .and .u8 (a:Int) (b:Int)= .ok (.int .u8 (a&&&b:Nat)):=by
 show(bif iy .u8 (a:Int)&&iy .u8 (b:Int) then R.ok (Value.int .u8 (a&&&b:Nat)) else .no 10)=_;rw [iV ha,iV hb];rfl
theorem uI {a:Nat} (ha:a<256) (hb:b<256):aN .xor .u8 (a:Int) (b:Int)= .ok (.int .u8 (a^^^b:Nat)):=by
 show(bif iy .u8 (a:Int)&&iy .u8 (b:Int) then R.ok (Value.int .u8 (a^^^b:Nat)) else .no 12)=_;rw [iV ha,iV hb];rfl
theorem q_ {a:Nat} (h:b≤a) (ha:a<4294967296):aN .sub .u32 (a:Int) (b:Int)= .ok (.int .u32 (a-b:Nat)):=by
 show R.ok (Value.int .u32 (dg .u32 ((a:Int)-(b:Int))))=_;rw [show(a:Int)-(b:Int)=((a-b:Nat):Int) by omega,pk,wo (by omega)]
theorem qx {a:Nat} (h:b≤a) (ha:a<9223372036854775808):aN .sub .i64 (a:Int) (b:Int)= .ok (.int .i64 (a-b:Nat)):=by
 show R.ok (Value.int .i64 (dg .i64 ((a:Int)-(b:Int))))=_;rw [show(a:Int)-(b:Int)=((a-b:Nat):Int) by omega,tD (by omega)]
theorem GG {k:IntKind} {a:Nat}:aN .eql k (a:Int) (b:Int)= .ok (.bool (decide (a=b))):=by
 show R.ok (Value.bool (Yc a b))=_;congr 2;cases h:Yc a b with
 |true=>simp [Yn h]
 |false=>simp [qbi h]
theorem ql (h:n<4294967296):Uw .xor (.int .u32 n)= .ok (.int .u32 (4294967295-n:Nat)):=by
 show(bif IntKind.signed .u32 then R.no 26 else bif iy .u32 (n:Int) then R.ok (Value.int .u32 (.ofNat (2^IntKind.bits .u32-1-n))) else .no 26)=_;rw [oY h];rfl
variable {k':IntKind}
theorem DK {d:Option TypeDesc} {k:IntKind} {a:Nat} (h:b<k.bits):hZ .shr d (.int k (a:Int)) (.int k' (b:Int))= .ok (.int k ((a>>>b:Nat):Int)):=by
 have e:hZ .shr d (.int k (a:Int)) (.int k' (b:Int))=R.ok (Value.int k (.ofNat (qch a (bif Ye b k.bits then b else k.bits)))):=by cases k<;>rfl
 rw [e];have:Ye b k.bits=true:=by rw [Yl];exact h
 rw [this];rfl
theorem mJ {d:Option TypeDesc} {a:Nat} (h:b<32):hZ .shr d (.int .u32 a) (.int k' (b:Int))= .ok (.int .u32 (a>>>b:Nat)):=DK h
theorem om {d:Option TypeDesc} {a:Nat} (h:b<8):hZ .shr d (.int .u8 a) (.int k' (b:Int))= .ok (.int .u8 (a>>>b:Nat)):=DK h
theorem qQ {a:Nat} (h:a*b<9223372036854775808):aN .mul .i64 (a:Int) (b:Int)= .ok (.int .i64 (a*b:Nat)):=by
 show R.ok (Value.int .i64 (dg .i64 ((a:Int)*(b:Int))))=_;rw [←Int.natCast_mul,tD h]
theorem qY {a:Nat} (h:a<b) (hb:b<9223372036854775808):aN .sub .i64 (a:Int) (b:Int)= .ok (.int .i64 (-((b-a:Nat):Int))):=by
 show R.ok (Value.int .i64 (dg .i64 ((a:Int)-(b:Int))))=_;rw [show(a:Int)-(b:Int)=-((b-a:Nat):Int) by omega,eF,ku (by show(-9223372036854775808:Int)≤_;omega) (by show _≤(9223372036854775807:Int);omega)]
theorem qv {k:IntKind} {a:Nat} (h:0<a):aN .lss k (-(a:Int)) (b:Int)= .ok (.bool true):=by
 obtain⟨c,rfl⟩:∃c,a=c+1:=⟨a-1,by omega⟩;rfl
theorem sa {a b:List UInt8} (h:a.length+b.length<4611686018427387904):de .add a b= .ok (strOf (a++b)):=by
 unfold de;have:Ye (a.length+b.length) 4611686018427387904=true:=by rw [Yl];exact h
 simp only [this,cond_true]
theorem CM {a b:List UInt8}:de .neq a b= .ok (.bool (decide (a≠b))):=by
 unfold de;simp only [dv];congr 2;by_cases h:a=b<;>simp [h]
theorem B9 {a b:List UInt8}:de .eql a b= .ok (.bool (decide (a=b))):=by
 unfold de;simp only [dv];congr 2;by_cases h:a=b<;>simp [h]
variable {d:Nat}
theorem gi {k:IntKind} {most:Nat} (h:n≤most):bound (some (.int k (n:Int))) d most= .ok n:=by
 unfold bound;show(bif X5 n most then R.ok n else .no 31)=_;rw [YY h];rfl
theorem jE {most:Nat}:bound none d most= .ok d:=rfl
theorem z9 {tb:bI} {t:TypeId} {l:List UInt8} {lo hi:Option Value} {a:Nat} (ht:tb.bp t=some .string) (h1:bound hi l.length l.length= .ok b) (h2:bound lo 0 b= .ok a):dj tb t (strOf l) lo hi none= .ok (strOf ((l.take b).drop a)):=by
 unfold dj strOf;simp only [ht,h1,h2,R.aA]
theorem oM {tb:bI} {t:TypeId} {l:List UInt8} {k:IntKind} (ht:tb.bp t=some .string) (h:n≤l.length):dj tb t (strOf l) none (some (.int k (n:Int))) none= .ok (strOf (l.take n)):=by
 rw [z9 ht (gi h) jE];rfl
theorem w9 {tb:bI} {t:TypeId} {l:List UInt8} {k:IntKind} (ht:tb.bp t=some .string) (h:n≤l.length):dj tb t (strOf l) (some (.int k (n:Int))) none none= .ok (strOf (l.drop n)):=by
 rw [z9 ht jE (gi h),Yw]
variable {i:Nat}
theorem ed {t:TypeId} {l:List UInt8} {kd:IntKind} (ht:tb.bp t=some .string) (h:i<l.length):mV tb t (strOf l) (.int kd (i:Int))= .ok (.int .u8 ((l.getD i 0).toNat:Nat)):=by
 unfold mV strOf;simp only [ht];show(match l[i]? with|some b=>R.ok (Value.int .u8 (.ofNat b.toNat))|none=>.no 53)=_;rw [X6 h];simp [List.getD,X6 h]
theorem cd {t:TypeId} {l:List UInt8} (ht:tb.bp t=some .string):aO tb .len [t] [strOf l]= .ok (.int .i64 (l.length:Nat)):=by
 unfold aO Eu strOf;simp only [ht];rfl
theorem v_ (b:UInt8):b.toNat<256:=b.toNat_lt
theorem A_ (s:ByteArray):Value.string s=strOf s.data.toList:=rfl
theorem G_ (t:T Value) (s:ByteArray):ev t (.const (.string s))= .ok (strOf s.data.toList):=rfl
theorem xg {op:BinOp} {d:Option TypeDesc} {a b:List UInt8}:hZ op d (strOf a) (strOf b)=de op a b:=rfl
def sub:Code→List Nat→Code
 | .seq a b,i::l=>bif Yc i 0 then sub a l else sub b l
 | .cond _ a b,i::l=>bif Yc i 0 then sub a l else sub b l
 | .block _ c,_::l=>sub c l
 | .loop c,_::l=>sub c l
 | .scope c,_::l=>sub c l
 | .rangeFunc _ _ a b,i::l=>bif Yc i 0 then sub a l else sub b l
 |c,_=>c
theorem Bs (c:Code):sub c []=c:=by cases c<;>rfl
theorem w_ (a b:Code) (l:List Nat):sub (.seq a b) (0::l)=sub a l:=rfl
theorem xU (a b:Code) (l:List Nat):sub (.seq a b) (1::l)=sub b l:=rfl
theorem uc (x:Operand) (a b:Code) (l:List Nat):sub (.cond x a b) (0::l)=sub a l:=rfl
theorem uG (x:Operand) (a b:Code) (l:List Nat):sub (.cond x a b) (1::l)=sub b l:=rfl
theorem uD (i:Nat) (c:Code) (l:List Nat):sub (.block i c) (0::l)=sub c l:=rfl
theorem zd (c:Code) (l:List Nat):sub (.loop c) (0::l)=sub c l:=rfl
theorem tL (c:Code) (l:List Nat):sub (.scope c) (0::l)=sub c l:=rfl
theorem qt (f:Operand) (ps:Array Tmp) (a b:Code) (l:List Nat):sub (.rangeFunc f ps a b) (0::l)=sub a l:=rfl
theorem qC (f:Operand) (ps:Array Tmp) (a b:Code) (l:List Nat):sub (.rangeFunc f ps a b) (1::l)=sub b l:=rfl
theorem mA (n:Nat):Yc n n=true:=by simp
theorem mE {tb:bI} {ts:List TypeId} {a:Nat}:aO tb .min ts [.int .i64 a,.int .i64 b]= .ok (.int .i64 (min a b:Nat)):=by
 have e:aO tb .min ts [.int .i64 a,.int .i64 b]= .ok (.int .i64 (bif Ye b a then(b:Int) else(a:Int))):=by
  cases ts<;>rfl
 rw [e];cases h:Ye b a with
 |true=>
  have:b<a:=by simpa [Yl] using h
  rw [ZY (by omega)];rfl
 |false=>
  have:¬b<a:=by intro hx;rw [←Yl,h] at hx;cases hx
  rw [Y4 (by omega)];rfl
theorem E6 {a b:Bool}:hZ .eql (some .bool) (.bool a) (.bool b)= .ok (.bool (a==b)):=by cases a<;>cases b<;>rfl
theorem qA {a:Nat} (h:0<b) (ha:a<9223372036854775808):aN .quo .i64 (a:Int) (b:Int)= .ok (.int .i64 (a/b:Nat)):=by
 obtain⟨c,rfl⟩:∃c,b=c+1:=⟨b-1,by omega⟩;show R.ok (Value.int .i64 (dg .i64 ((a/(c+1):Nat):Int)))=_;rw [tD (Y5 (qcd ..) ha)]
theorem qD {a:Nat} (ha:a<4294967296) (hb:b<4294967296):aN .and .u32 (a:Int) (b:Int)= .ok (.int .u32 (a&&&b:Nat)):=by
 show(bif iy .u32 (a:Int)&&iy .u32 (b:Int) then R.ok (Value.int .u32 (a&&&b:Nat)) else .no 10)=_;rw [oY ha,oY hb];rfl
theorem nP {d:Option TypeDesc} {a:Nat} (h:b<8):hZ .shl d (.int .u8 a) (.int k' (b:Int))= .ok (.int .u8 (a<<<b % 256:Nat)):=by
 have e:hZ .shl d (.int .u8 a) (.int k' (b:Int))=(bif Ye b 8 then R.ok (Value.int .u8 (dg .u8 ((a<<<b:Nat):Int))) else .ok (.int .u8 0)):=rfl;have hb:Ye b 8=true:=by rw [Yl];exact h
 rw [e,hb,cond_true,k_]
variable {f:FuncId} {fn:Func} {A A':Mem} {v:Value}
theorem bW {c:Code} {h:List Value→Mem→R (Value×Mem)} {args:List Value} (hf:tb.fn.get f=some fn) (hn:(fn.name== "runtime.NumGoroutine")=false) (hb:fn.body=some c)
 (hk:tb.hk.get f=some h) (hv:h args A= .ok (v,A')):bg tb ih (.fn f args) A= .ok (.val v A'):=by
 unfold bg;simp only [hf,hn,hb,hk,hv,cond_false,R.aA]
end
section
variable {tb:bI}
def W (tb:bI) (c:Code) (s:St) (K:Ex→St→Prop):Prop:=∃e s',(∃f,∀m,exec tb (m+f) c s= .ok (e,s'))∧K e s'
theorem W.run {c:Code} {s:St} {K:Ex→St→Prop} (f:Nat) {e:Ex} {s':St} (h:∀m,exec tb (m+f) c s= .ok (e,s')) (k:K e s'):W tb c s K:=⟨e,s',⟨f,h⟩,k⟩
theorem W.mono {c:Code} {s:St} {K K':Ex→St→Prop} (h:W tb c s K) (hk:∀e s',K e s'→K' e s'):W tb c s K':=by
 obtain⟨e,s',h1,h2⟩:=h;exact⟨e,s',h1,hk _ _ h2⟩
def UP (tb:bI) (b:Code) (K:Ex→St→Prop) (e:Ex) (s:St):Prop:=
 match e with
 | .nrm=>W tb b s K
 |e=>K e s
theorem W.seq {a b:Code} {s:St} {K:Ex→St→Prop} (h:W tb a s (UP tb b K)):W tb (.seq a b) s K:=by
 obtain⟨e,s1,⟨f,h1⟩,h2⟩:=h;cases e with
 |nrm=>
  obtain⟨e2,s2,⟨g,h3⟩,h4⟩:=h2;refine⟨e2,s2,⟨f+g+1,fun m=>?_⟩,h4⟩;have e1:=h1 (m+g);have e2':=h3 (m+f);rw [show m+(f+g+1)=(m+g+f)+1 by omega,oI,e1,R.aA];show exec tb (m+g+f) b s1=_;rw [show m+g+f=m+f+g by omega];exact e2'
 |_=>exact⟨_,s1,⟨f+1,fun m=>by rw [show m+(f+1)=(m+f)+1 by omega,oI,h1];rfl⟩,h2⟩
def XD (id:Nat) (K:Ex→St→Prop) (e:Ex) (s:St):Prop:=
 match e with
 | .exit i=>if i=id then K .nrm s else K (.exit i) s
 |e=>K e s
theorem W.block {id:Nat} {c:Code} {s:St} {K:Ex→St→Prop} (h:W tb c s (XD id K)):W tb (.block id c) s K:=by
 obtain⟨e,s1,⟨f,h1⟩,h2⟩:=h;cases e with
 |exit i=>
  unfold XD at h2;simp only at h2;by_cases hi:i=id
  ·subst hi;rw [if_pos rfl] at h2;exact⟨.nrm,s1,⟨f+1,fun m=>by rw [show m+(f+1)=(m+f)+1 by omega,ia,h1];simp [R.aA]⟩,h2⟩
  ·rw [if_neg hi] at h2;have hb:Yc i id=false:=by
    cases hq:Yc i id with
    |false=>rfl
    |true=>exact absurd (Yn hq) hi
   exact⟨.exit i,s1,⟨f+1,fun m=>by rw [show m+(f+1)=(m+f)+1 by omega,ia,h1];simp [R.aA,hb]⟩,h2⟩
 |_=>exact⟨_,s1,⟨f+1,fun m=>by rw [show m+(f+1)=(m+f)+1 by omega,ia,h1];rfl⟩,h2⟩
theorem W.scope {c:Code} {s:St} {K:Ex→St→Prop} (h:W tb c s K):W tb (.scope c) s K:=by
 obtain⟨e,s1,⟨f,h1⟩,h2⟩:=h;exact⟨e,s1,⟨f+1,fun m=>by rw [show m+(f+1)=(m+f)+1 by omega,mS,h1]⟩,h2⟩
theorem W.cond {c:Operand} {a b:Code} {s:St} {K:Ex→St→Prop} {p:Bool} (hp:ev s.t c= .ok (.bool p)) (ha:p=true→W tb a s K) (hb:p=false→W tb b s K):W tb (.cond c a b) s K:=by
 cases p with
 |true=>
  obtain⟨e,s1,⟨f,h1⟩,h2⟩:=ha rfl;exact⟨e,s1,⟨f+1,fun m=>by rw [show m+(f+1)=(m+f)+1 by omega,lq,hp,R.aA];exact h1 m⟩,h2⟩
 |false=>
  obtain⟨e,s1,⟨f,h1⟩,h2⟩:=hb rfl;exact⟨e,s1,⟨f+1,fun m=>by rw [show m+(f+1)=(m+f)+1 by omega,lq,hp,R.aA];exact h1 m⟩,h2⟩
theorem W.round {c:Code} {s:St} {K:Ex→St→Prop} (h:W tb c s (UP tb (.loop c) K)):W tb (.loop c) s K:=by
 obtain⟨e,s1,⟨f,h1⟩,h2⟩:=h;cases e with
 |nrm=>
  obtain⟨e2,s2,⟨g,h3⟩,h4⟩:=h2;refine⟨e2,s2,⟨f+g+1,fun m=>?_⟩,h4⟩;rw [show m+(f+g+1)=(m+g+f)+1 by omega,pB,h1,R.aA];show exec tb (m+g+f) (.loop c) s1=_;rw [show m+g+f=m+f+g by omega];exact h3 (m+f)
 |_=>exact⟨_,s1,⟨f+1,fun m=>by rw [show m+(f+1)=(m+f)+1 by omega,pB,h1];rfl⟩,h2⟩
theorem W.loop {c:Code} {K:Ex→St→Prop} (P:St→Prop) (μ:St→Nat) (hb:∀s,P s→W tb c s fun e s'=>match e with
 | .nrm=>P s'∧μ s'<μ s
 |e=>K e s'):∀{s:St},P s→W tb (.loop c) s K:=by
 have main:∀n s,μ s=n→P s→W tb (.loop c) s K:=by
  intro n
  induction n using qbf with
  |ind n ih=>
   intro s hn hp;obtain⟨e,s1,⟨f,h1⟩,h2⟩:=hb s hp;cases e with
   |nrm=>
    obtain⟨e2,s2,⟨g,h3⟩,h4⟩:=ih _ (by rw [←hn];exact h2.2) s1 rfl h2.1;refine⟨e2,s2,⟨f+g+1,fun m=>?_⟩,h4⟩;have e1:=h1 (m+g);rw [show m+(f+g+1)=(m+g+f)+1 by omega,pB,e1,R.aA];show exec tb (m+g+f) (.loop c) s1=_;rw [show m+g+f=m+f+g by omega];exact h3 (m+f)
   |_=>exact⟨_,s1,⟨f+1,fun m=>by rw [show m+(f+1)=(m+f)+1 by omega,pB,h1];rfl⟩,h2⟩
 exact fun {s} hp=>main _ s rfl hp
def jf (tb:bI) (f:FuncId) (args:List Value) (A:Mem) (v:Value) (A':Mem):Prop:=∃n,call tb n f args A= .ok (.val v A')
variable {f:FuncId} {fn:Func} {A:Mem}
theorem uf {c:Code} {args:List Value} {Q:Value→Mem→Prop} (hf:tb.fn.get f=some fn) (hb:fn.body=some c) (hn:args.length≤fn.ntmps)
 (h:W tb c ⟨T.bJ .e 0 args,fn.ntmps,[],A,none⟩ fun e s=>(e= .nrm∨e= .ret)∧∃A' vs,fc s.d s.m= .ok A'∧fj tb s.t A'.get fn.results.toList= .ok vs∧Q (oneOf vs) A'):
 ∃v A',jf tb f args A v A'∧Q v A':=by
 obtain⟨e,s1,⟨g,h1⟩,he,A',vs,h2,h3,h4⟩:=h;refine⟨_,A',⟨g,?_⟩,h4⟩;unfold call;simp only [hf,hb];unfold lM;have hb:X5 args.length fn.ntmps=true:=by rw [qaT];exact hn
 rw [hb,cond_true];have:=h1 0;rw [Yy] at this;rw [this,R.aA];rcases he with rfl|rfl<;>simp only [h2,h3,R.aA]
theorem yp {c:Code} {args:List Value} {Q:Value→Mem→Prop} (hf:tb.fn.get f=some fn) (hb:fn.body=some c) (hn:args.length≤fn.ntmps) (hnm:(fn.name== "runtime.NumGoroutine")=false) (hk:tb.hk.get f=none)
 (h:W tb c ⟨T.bJ .e 0 args,fn.ntmps,[],A,none⟩ fun e s=>(e= .nrm∨e= .ret)∧∃A' vs,fc s.d s.m= .ok A'∧fj tb s.t A'.get fn.results.toList= .ok vs∧Q (oneOf vs) A'):
 ∃v A',(∃g,∀m,bg tb (exec tb (m+g)) (.fn f args) A= .ok (.val v A'))∧Q v A':=by
 obtain⟨e,s1,⟨g,h1⟩,he,A',vs,h2,h3,h4⟩:=h;refine⟨_,A',⟨g,fun m=>?_⟩,h4⟩;unfold bg;simp only [hf,hb,hnm,hk,cond_false];unfold lM;have hb:X5 args.length fn.ntmps=true:=by rw [qaT];exact hn
 rw [hb,cond_true,h1,R.aA];rcases he with rfl|rfl<;>simp only [h2,h3,R.aA]
end
section
variable {tb:bI}
theorem gL {α:Type} (t:T α):∀(n i:Nat) (l:List α),l.length=n→(∀j,j<n→t.get (i+j)=l[j]?)→t.ji n i=some l
 |0,i,l,hl,_=>by
  have:l=[]:=Yh.1 hl;rw [this];rfl
 |n+1,i,[],hl,_=>by simp at hl
 |n+1,i,x::l,hl,h=>by
  rw [T.AF];have h0:=h 0 (by omega);simp only [YU,X8] at h0;have ht:t.ji n (i+1)=some l:=gL t n (i+1) l (by simpa using hl) fun j hj=>by
   have:=h (j+1) (by omega);rw [show i+1+j=i+(j+1) by omega,this];simp
  rw [h0,ht]
theorem Km {α:Type} (l:List α):(T.bJ .e 0 l).ji l.length 0=some l:=
 gL _ _ _ _ rfl fun j hj=>by
  rw [T.en,Yy,if_pos (by omega)];simp
theorem iJ:∀(l:List UInt8),bytesOf (l.map dq)= .ok l
 | []=>rfl
 |b::l=>by
  show(bytesOf (l.map dq)).bind (fun r=>R.ok (Zc b.toNat::r))=_;rw [iJ l,R.aA];simp
def Bytes (A:Mem) (b:Nat) (e:TypeId) (k:Kd) (l:List UInt8):Prop:=A.get b=some (.cells e k 0 (T.bJ .e 0 (l.map dq)))
variable {A:Mem} {b:Nat}
theorem m8 {e:TypeId} {k:Kd} {l:List UInt8} (h:Bytes A b e k l):c_ A.get 1 l.length (some ⟨b,0,none⟩)= .ok (l.map dq):=by
 unfold c_;simp only [Zf];cases hn:Yc l.length 0 with
 |true=>
  have:l=[]:=Yh.1 (Yn hn);subst this;rfl
 |false=>
  have h':A.get b=_:=h;have hg:(T.bJ .e 0 (l.map dq)).ji l.length 0=some (l.map dq):=by
   have:=Km (l.map dq);rwa [Yb] at this
  simp only [cond_false,h',hg]
variable {c:Nat}
theorem rV {e:TypeId} {k:Kd} {l:List UInt8} {s d:TypeId} (h1:tb.bp s=some (.slice e)) (h2:tb.bp d=some .string) (h3:tb.bp e=some (.int .u8)) (h:Bytes A b e k l):
 cY tb A.get s d (.slice (some ⟨b,0,none⟩) l.length c)= .ok (strOf l):=by
 unfold cY;simp only [h1,h2,h3,ik,m8 h,R.aA,iJ]
theorem sV {l:List UInt8} {s d e:TypeId} (h1:tb.bp s=some .string) (h2:tb.bp d=some (.slice e)) (h3:tb.bp e=some (.int .u8)) (hl:l.length<4294967296):
 jt tb s d (strOf l)= .ok (.cells e .mark 0 (T.bJ .e 0 (l.map dq)),.m_ l.length (fe l.length 1)):=by
 unfold jt strOf;have:Ye l.length 4294967296=true:=by rw [Yl];exact hl
 simp only [h1,h2,h3,this,cond_true]
theorem gK {v:Nat} (h:v<256):Value.int .u8 v=dq (Zc v):=by
 unfold dq;have e:(Zc v).toNat=v:=by rw [qaA];exact Zb h
 rw [e];rfl
theorem aD (A:Mem) (o:Ob):(A.alloc o).get A.next=some o:=by rw [cG,if_pos rfl]
theorem aH {o:Ob} {x:Nat} (h:x≠A.next):(A.alloc o).get x=A.get x:=by rw [cG,if_neg h]
theorem E4 {st xt e:TypeId} {i:TypeInfo} {b2:Nat} {k:Kd} {l:List UInt8} {v:Nat} (hst:tb.bp st=some (.slice e)) (hxt:tb.bp xt=some (.slice e)) (hz:cq tb e= .ok (1,[.int .u8 0])) (hi:tb.ty.get e=some i) (hib:i.bytes=1)
 (hl:l.length<16777216) (hk:k= .mark∨k= .row) (hb:Bytes A b e k l) (hb2:A.get b2=some (aa e [.int .u8 v])) (hv:v<256):
 bk tb A st xt (.slice (some ⟨b,0,none⟩) l.length (fe l.length 1)) (.slice (some ⟨b2,0,none⟩) 1 2)=
  .ok (.slice (some ⟨A.next,0,none⟩) (l.length+1) (fe (l.length+1) 1),(A.set b .dead).alloc (.cells e k 0 (T.bJ .e 0 ((l++[Zc v]).map dq)))):=by
 have he1:(1:Nat)<65536:=by omega
 have hnew:gX A.get 1 1 (.slice (some ⟨b2,0,none⟩) 1 2)= .ok [dq (Zc v)]:=by
  have hb3:Bytes A b2 e (.var 1) [Zc v]:=by
   show A.get b2=some (.cells e (.var 1) 0 (T.bJ .e 0 [dq (Zc v)]));rw [hb2,gK hv];rfl
  exact m8 hb3
 have hble:X5 (l.length+1) (bN (fe l.length 1))=false:=by
  rw [cm he1];cases hq:X5 (l.length+1) l.length with
  |false=>rfl
  |true=>have:=Yx hq;omega
 have hlim:(X5 (l.length+1) 16777216&&X5 i.bytes 65536&&Ye 0 i.bytes&&Ye 0 1&&Ye 1 65536)=true:=by
  have a1:X5 (l.length+1) 16777216=true:=YY (by omega);rw [a1,hib];rfl
 have hb':A.get b=_:=hb;have hx:eA (fe l.length 1)=false:=cH _ _;have he:Yc (iQ (fe l.length 1)) 1=true:=by rw [dG he1];rfl
 have hfz:(X5 0 (0+l.length*1)&&(Yc e e&&Ye 0 9223372036854775808))=true:=by
  have h0:Ye 0 9223372036854775808=true:=by rw [Yl];omega
  rw [h0];simp
 unfold bk cU;simp only [hst,hxt,gu,cond_false,hz,R.aA,jC,hnew,hble,hi,hlim,cond_true,m8 hb,hx,he,List.all_cons,List.all_nil,dq,aJ,qau,hb',hfz];rcases hk with rfl|rfl<;>simp [dq]
variable {o i:Nat}
theorem iA {t elem:TypeId} {len:Nat} {k:IntKind} (hu:tb.bp t=some (.array len elem)) (hs:aY tb elem= .ok 1) (h:i<len):
 aZ tb t (.pointer (some ⟨b,o,none⟩)) (.int k (i:Int))= .ok (.pointer (some ⟨b,o+i,none⟩)):=by
 have hb:Ye i len=true:=by rw [Yl];exact h
 have hn:lP (.int k (i:Int))= .ok i:=rfl;unfold aZ;simp only [hn,hu,hb,cond_true,hs,R.aA,jh,Zf]
variable {cap:Nat}
theorem fZ {t elem:TypeId} {len:Nat} {k:IntKind} (hu:tb.bp t=some (.slice elem)) (hs:aY tb elem= .ok 1) (h:i<len):
 aZ tb t (.slice (some ⟨b,o,none⟩) len cap) (.int k (i:Int))= .ok (.pointer (some ⟨b,o+i,none⟩)):=by
 have hb:Ye i len=true:=by rw [Yl];exact h
 have hn:lP (.int k (i:Int))= .ok i:=rfl;unfold aZ;simp only [hn,hu,hb,cond_true,hs,R.aA,jh,Zf]
variable {l:List Value} {v:Value}
theorem DY {t e:TypeId} {d:TypeDesc} (hu:tb.bp t=some d) (ha:cN d=false) (hg:A.get b=some (aa e l)) (hv:l[o]?=some v):
 aq tb A.get t (.pointer (some ⟨b,o,none⟩))= .ok v:=by
 have ho:o<l.length:=(X_.1 hv).1;have hc:(T.bJ .e 0 l).get o=some v:=by
  rw [T.en,if_pos (by omega),Zd];exact hv
 unfold aq;simp only [hg,aa,hu,ha,cond_false,hc]
variable {B:Mem}
theorem JS {t:TypeId} (h:A.get b=B.get b):aq tb A.get t (.pointer (some ⟨b,o,none⟩))=aq tb B.get t (.pointer (some ⟨b,o,none⟩)):=by
 unfold aq;simp only [h]
variable {n:Nat}
theorem dJ {t e:TypeId} {a:Option Addr} (hu:tb.bp t=some (.slice e)):aO tb .len [t] [.slice a n c]= .ok (.int .i64 (n:Nat)):=by
 unfold aO Eu;simp only [hu];rfl
end
section
variable {tb:bI}
def Fp (A:Mem) (b:Nat) (e:TypeId) (k:Kd) (l:List UInt8):Prop:=∃c,A.get b=some (.cells e k 0 c)∧∀i,i<l.length→c.get i=(l.map dq)[i]?
variable {A:Mem} {b:Nat}
theorem Bytes.XX {e:TypeId} {k:Kd} {l:List UInt8} (h:Bytes A b e k l):Fp A b e k l:=
 ⟨_,h,fun i hi=>by rw [T.en,Yy,Yb,if_pos ⟨Yg _,hi⟩,Zd]⟩
variable {A':Mem}
theorem Fp.same {e:TypeId} {k:Kd} {l:List UInt8} (h:Fp A b e k l) (hg:A'.get b=A.get b):Fp A' b e k l:=by
 obtain⟨c,h1,h2⟩:=h;exact⟨c,hg.trans h1,h2⟩
theorem GM {e:TypeId} {k:Kd} {l:List UInt8} (h:Fp A b e k l):c_ A.get 1 l.length (some ⟨b,0,none⟩)= .ok (l.map dq):=by
 obtain⟨c,h1,h2⟩:=h;unfold c_;simp only [Zf];cases hn:Yc l.length 0 with
 |true=>
  have:l=[]:=Yh.1 (Yn hn);subst this;rfl
 |false=>
  have hg:c.ji l.length 0=some (l.map dq):=gL _ _ _ _ (by simp) fun j hj=>by rw [Yy];exact h2 j hj
  simp only [cond_false,h1,hg]
variable {c:Nat}
theorem m7 {e:TypeId} {k:Kd} {l:List UInt8} {s d:TypeId} (h1:tb.bp s=some (.slice e)) (h2:tb.bp d=some .string) (h3:tb.bp e=some (.int .u8)) (h:Fp A b e k l):
 cY tb A.get s d (.slice (some ⟨b,0,none⟩) l.length c)= .ok (strOf l):=by
 unfold cY;simp only [h1,h2,h3,ik,GM h,R.aA,iJ]
variable {o:Nat}
theorem LB {e t:TypeId} {k:Kd} {l:List UInt8} (hu:tb.bp t=some (.int .u8)) (h:Fp A b e k l) (ho:o<l.length):
 aq tb A.get t (.pointer (some ⟨b,o,none⟩))= .ok (.int .u8 ((l.getD o 0).toNat:Nat)):=by
 obtain⟨c,h1,h2⟩:=h;have hc:=h2 o ho;rw [Yr,X6 ho] at hc;unfold aq;simp only [h1,hu,cN,cond_false,hc,YI];simp [dq,List.getD,X6 ho]
theorem KF {v:Nat} {e t:TypeId} {k:Kd} {l:List UInt8} (hs:aY tb t= .ok 1) (h:Fp A b e k l) (ho:o<l.length) (hv:v<256):
 ∃A',aW tb A t (.pointer (some ⟨b,o,none⟩)) (.int .u8 v)= .ok A'∧Fp A' b e k (l.set o (.ofNat v))∧A'.next=A.next∧∀x,x≠b→A'.get x=A.get x:=by
 obtain⟨c,h1,h2⟩:=h;have hc:c.get o=some (dq l[o]):=by rw [h2 o ho,Yr,X6 ho];rfl
 have hst:dW (yH k) 0 [.int .u8 v] o c= .ok (c.set o (.int .u8 v)):=by
  unfold dW;have hb:(aJ (.int .u8 v)&&X5 0 o)=true:=by simp [aJ]
  rw [hb,cond_true,hc];rfl
 refine⟨A.set b (.cells e k 0 (c.set o (.int .u8 v))),?_,⟨_,by rw [aL,if_pos rfl],fun i hi=>?_⟩,aX _ _ _,fun x hx=>by rw [aL,if_neg hx]⟩
 ·unfold aW;simp only [hs,R.aA];show(bif Yc 1 1 then cI A ⟨b,o,none⟩ [.int .u8 v] else .no 123)=_;unfold cI;simp only [h1,hst,R.aA];rfl
 ·rw [YG] at hi;rw [T.af,Yr,Zn];by_cases hio:i=o
  ·subst hio;rw [if_pos rfl,if_pos rfl,if_pos hi];simp [gK hv]
  ·rw [if_neg hio,if_neg (fun x=>hio x.symm),h2 i hi,Yr]
end
section
variable {tb:bI} {ih:Code→St→R (Ex×St)}
def Sl (t:T Value):List (Nat×Value)→Prop
 | []=>True
 |p::l=>t.get p.1=some p.2∧Sl t l
theorem av (t:T Value) (i:Nat) (v:Value) (l:List (Nat×Value)):Sl t ((i,v)::l)=(t.get i=some v∧Sl t l):=rfl
theorem aw (t:T Value):Sl t []=True:=rfl
theorem W.a6 {c:Code} {s:St} {K:Ex→St→Prop} (g f:Nat) {e:Ex} {s':St} (h:∀M,g≤M→exec tb (M+f) c s= .ok (e,s')) (k:K e s'):W tb c s K:=
 ⟨e,s',⟨g+f,fun m=>by rw [←qaO];exact h _ (Nat.le_add_left _ _)⟩,k⟩
variable {n:Nat} {t:T Value} {A:Mem}
theorem W.up {c:Code} {d:List Nat} {ro:Option Nat} {K:Ex→St→Prop} (N:Nat) (P:Nat→T Value→Mem→Prop)
 (hb:∀k t A,k≤N→P k t A→W tb c ⟨t,n,d,A,ro⟩ fun e s'=>match e with
  | .nrm=>k<N∧∃t' A',s'=⟨t',n,d,A',ro⟩∧P (k+1) t' A'
  |e=>K e s') {k:Nat} (hk:k≤N) (hp:P k t A):W tb (.loop c) ⟨t,n,d,A,ro⟩ K:=by
 have main:∀j k t A,k+j=N→P k t A→W tb (.loop c) ⟨t,n,d,A,ro⟩ K:=by
  intro j
  induction j with
  |zero=>
   intro k t A hk hp;refine W.round ((hb k t A (by omega) hp).mono fun e s' h=>?_);cases e with
   |nrm=>exact absurd h.1 (by omega)
   |_=>exact h
  |succ j ih=>
   intro k t A hk hp;refine W.round ((hb k t A (by omega) hp).mono fun e s' h=>?_);cases e with
   |nrm=>
    obtain⟨_,t',A',rfl,h'⟩:=h;exact ih (k+1) t' A' (by omega) h'
   |_=>exact h
 exact main (N-k) k t A (by omega) hp
def bL (tb:bI) (f:FuncId) (args:List Value) (A:Mem) (v:Value) (A':Mem):Prop:=∃g,∀M,g≤M→bg tb (exec tb M) (.fn f args) A= .ok (.val v A')
variable {f:FuncId} {fn:Func}
theorem eE {c:Code} {args:List Value} {Q:Value→Mem→Prop} (hf:tb.fn.get f=some fn) (hb:fn.body=some c) (hn:args.length≤fn.ntmps) (hnm:(fn.name== "runtime.NumGoroutine")=false) (hk:tb.hk.get f=none)
 (h:W tb c ⟨T.bJ .e 0 args,fn.ntmps,[],A,none⟩ fun e s=>(e= .nrm∨e= .ret)∧∃A' vs,fc s.d s.m= .ok A'∧fj tb s.t A'.get fn.results.toList= .ok vs∧Q (oneOf vs) A'):
 ∃v A',bL tb f args A v A'∧Q v A':=by
 obtain⟨v,A',⟨g,h1⟩,h2⟩:=yp hf hb hn hnm hk h;refine⟨v,A',⟨g,fun M hM=>?_⟩,h2⟩;have:=h1 (M-g);rwa [qak hM] at this
variable {A':Mem} {v:Value}
theorem AQ {c:Code} {args:List Value} (hf:tb.fn.get f=some fn) (hb:fn.body=some c) (hnm:(fn.name== "runtime.NumGoroutine")=false) (hk:tb.hk.get f=none) (h:bL tb f args A v A'):jf tb f args A v A':=by
 obtain⟨g,hg⟩:=h;refine⟨g,?_⟩;have h1:=hg g (X9 _);unfold bg at h1;simp only [hf,hb,hnm,hk,cond_false] at h1;unfold call;simp only [hf,hb];exact h1
section
variable (dst:Option Tmp) (ty:TypeId) (pos:String) (after:Array Edge) (g:Option (Nat×Bool)) (s:St) (k:St→R (Ex×St))
theorem aS (f:FuncId) (a b:Array Operand):dI tb ih {dst,op:=.makeFunc (.func f) a b,type:=ty,pos,after,guard:=g} s k=
 (oV s.t a.toList).bind fun a=>(oV s.t b.toList).bind fun b=>bP s dst (.func (.func f) ⟨a⟩ ⟨b⟩) k:=by
 rw [iO _ _ _ _ _ _ _ rfl rfl];simp only [th,R.ba,R.aA]
def H2 (tb:bI) (ih:Code→St→R (Ex×St)) (fv:Value) (a:List Value) (A:Mem):R Fv:=(jl tb A.get fv a).bind fun cl=>bg tb ih cl A
theorem wW (f:FuncId) (x y:List Value) (a:List Value) (A:Mem):H2 tb ih (.func (.func f) ⟨x⟩ ⟨y⟩) a A=bg tb ih (.fn f (x++a++y)) A:=rfl
theorem uR (l:Nat) (x y:Array Value) (a:List Value) (A:Mem):H2 tb ih (.func (.yield l) x y) a A=bg tb ih (.round l a) A:=rfl
theorem AG (x:Nat) (args:Array Operand) (ts:Array TypeId):dI tb ih {dst,op:=.call {callee:=.value (.tmp x),args,argTypes:=ts},type:=ty,pos,after,guard:=g} s k=
 (oV s.t args.toList).bind fun a=>(ev s.t (.tmp x)).bind fun fv=>(H2 tb ih fv a s.m).bind fun r=>OQ s dst k r:=by
 unfold dI;show((yh tb s.t s.m.get {callee:=.value (.tmp x),args,argTypes:=ts}).bind fun cl=>(bg tb ih cl s.m).bind fun r=>match r with
  | .val v A=>bP {s with m:=A} dst v k
  | .i_ v A=>.ok (.i_ v,{s with m:=A}))=_
 unfold yh H2;simp only [R.ba];cases oV s.t args.toList with
 |no _=>rfl
 |ok a=>
  simp only [R.aA];cases ev s.t (.tmp x) with
  |no _=>rfl
  |ok fv=>
   simp only [R.aA];cases jl tb s.m.get fv a with
   |no _=>rfl
   |ok cl=>
    simp only [R.aA];cases bg tb ih cl s.m with
    |no _=>rfl
    |ok r=>cases r<;>rfl
end
theorem uL (t:T Value):ev t (.const (.slice none 0 0))= .ok (.slice none 0 0):=rfl
theorem cE (t:T Value):ev t (.const .nilFunc)= .ok .nilFunc:=rfl
theorem aV (t:T Value):ev t (.const (.pointer none))= .ok (.pointer none):=rfl
theorem pj (t:T Value):ev t (.const (.map none))= .ok (.map none):=rfl
theorem iF (a b:Int):nu a b=decide (a<b):=by
 have h:∀x y:Nat,Ye x y=decide (x<y):=fun x y=>by
  cases hb:Ye x y with
  |true=>rw [Yl] at hb;simp [hb]
  |false=>
   have:¬x<y:=fun h=>by rw [←Yl,hb] at h;cases h
   simp [this]
 unfold nu;split
 ·rw [h];congr 1;simp
 ·symm;simp only [decide_eq_false_iff_not];simp only [YD];omega
 ·symm;simp only [decide_eq_true_eq];simp only [YD];omega
 ·rw [h];congr 1;simp only [eq_iff_iff];omega
theorem sw (a b:Int):mL a b=decide (a=b):=by
 have h:∀x y:Nat,Yc x y=decide (x=y):=fun x y=>by
  cases hb:Yc x y with
  |true=>have:=Yn hb;simp [this]
  |false=>have:=qbi hb;simp [this]
 unfold mL;split
 ·rw [h];congr 1;simp only [YD,eq_iff_iff];omega
 ·rw [h];congr 1;simp only [eq_iff_iff];omega
 ·rename_i h1 h2;symm;simp only [decide_eq_false_iff_not];intro hab;subst hab;cases a with
  |ofNat x=>exact h1 x x rfl rfl
  |negSucc x=>exact h2 x x rfl rfl
theorem eY {k:IntKind} {a b:Int}:aN .leq k a b= .ok (.bool (decide (a≤b))):=by
 show R.ok (Value.bool (!nu b a))=_;rw [iF];congr 2;by_cases h:a≤b
 ·have:¬b<a:=by omega
  simp [h,this]
 ·have:b<a:=by omega
  simp [h,this]
theorem bR {k:IntKind} {a b:Int}:aN .gtr k a b= .ok (.bool (decide (b<a))):=by
 show R.ok (Value.bool (nu b a))=_;rw [iF]
theorem bO {k:IntKind} {a b:Int}:aN .geq k a b= .ok (.bool (decide (b≤a))):=by
 show R.ok (Value.bool (!nu a b))=_;rw [iF];congr 2;by_cases h:b≤a
 ·have:¬a<b:=by omega
  simp [h,this]
 ·have:a<b:=by omega
  simp [h,this]
theorem pH {k:IntKind} {a b:Int}:aN .lss k a b= .ok (.bool (decide (a<b))):=by
 show R.ok (Value.bool (nu a b))=_;rw [iF]
theorem bm (a b:Nat):((a:Int)≤(b:Int))=(a≤b):=by simp
theorem bw (a b:Nat):((a:Int)<(b:Int))=(a<b):=by simp
variable {b:Nat}
theorem max_i64 {ts:List TypeId} {a:Nat}:aO tb .max ts [.int .i64 a,.int .i64 b]= .ok (.int .i64 (max a b:Nat)):=by
 have e:aO tb .max ts [.int .i64 a,.int .i64 b]= .ok (.int .i64 (bif Ye a b then(b:Int) else(a:Int))):=by
  cases ts<;>rfl
 rw [e];cases h:Ye a b with
 |true=>
  have:a<b:=by simpa [Yl] using h
  rw [qbG (by omega)];rfl
 |false=>
  have:¬a<b:=by intro hx;rw [←Yl,h] at hx;cases hx
  rw [qcc (by omega)];rfl
theorem LO {p:Bool}:Uw .not (.bool p)= .ok (.bool (!p)):=by cases p<;>rfl
def dD (A:Mem) (e:TypeId) (b:Nat) (k:Kd) (l:List Value):Prop:=∃c,A.get b=some (.cells e k 0 c)∧∀i,i<l.length→c.get i=l[i]?
theorem ee {e:TypeId} {k:Kd} {l:List Value} (h:A.get b=some (.cells e k 0 (T.bJ .e 0 l))):dD A e b k l:=
 ⟨_,h,fun i hi=>by rw [T.en,Yy,if_pos ⟨Yg _,hi⟩,Zd]⟩
theorem dD.same {e:TypeId} {k:Kd} {l:List Value} (h:dD A e b k l) (hg:A'.get b=A.get b):dD A' e b k l:=by
 obtain⟨c,h1,h2⟩:=h;exact⟨c,hg.trans h1,h2⟩
theorem ke {e:TypeId} {k:Kd} {l:List Value} (h:dD A e b k l):c_ A.get 1 l.length (some ⟨b,0,none⟩)= .ok l:=by
 obtain⟨c,h1,h2⟩:=h;unfold c_;simp only [Zf];cases hn:Yc l.length 0 with
 |true=>
  have:l=[]:=Yh.1 (Yn hn);subst this;rfl
 |false=>
  have hg:c.ji l.length 0=some l:=gL _ _ _ _ rfl fun j hj=>by rw [Yy];exact h2 j hj
  simp only [cond_false,h1,hg]
variable {o:Nat}
theorem bf {e t:TypeId} {d:TypeDesc} {k:Kd} {l:List Value} (hu:tb.bp t=some d) (ha:cN d=false) (h:dD A e b k l) (hv:l[o]?=some v):
 aq tb A.get t (.pointer (some ⟨b,o,none⟩))= .ok v:=by
 obtain⟨c,h1,h2⟩:=h;have ho:o<l.length:=(X_.1 hv).1;have hc:=h2 o ho;rw [hv] at hc;unfold aq;simp only [h1,hu,ha,cond_false,hc]
theorem a_ {e t:TypeId} {k:Kd} {l:List Value} (hs:aY tb t= .ok 1) (h:dD A e b k l) (ho:o<l.length) (hv:v.cells.toList=[v]) (h1c:aJ v=true):
 ∃A',aW tb A t (.pointer (some ⟨b,o,none⟩)) v= .ok A'∧dD A' e b k (l.set o v)∧A'.next=A.next∧∀x,x≠b→A'.get x=A.get x:=by
 obtain⟨c,h1,h2⟩:=h;have hc:c.get o=some l[o]:=by rw [h2 o ho,X6 ho]
 have hst:dW (yH k) 0 [v] o c= .ok (c.set o v):=by
  unfold dW;have hb:(aJ v&&X5 0 o)=true:=by rw [h1c];simp
  rw [hb,cond_true,hc];rfl
 refine⟨A.set b (.cells e k 0 (c.set o v)),?_,⟨_,by rw [aL,if_pos rfl],fun i hi=>?_⟩,aX _ _ _,fun x hx=>by rw [aL,if_neg hx]⟩
 ·unfold aW;simp only [hs,R.aA,hv];show(bif Yc 1 1 then cI A ⟨b,o,none⟩ [v] else .no 123)=_;unfold cI;simp only [h1,hst,R.aA];rfl
 ·rw [YG] at hi;rw [T.af,Zn];by_cases hio:i=o
  ·subst hio;rw [if_pos rfl,if_pos rfl,if_pos hi]
  ·rw [if_neg hio,if_neg (fun x=>hio x.symm),h2 i hi]
def pQ (A:Mem) (e:TypeId) (b:Nat) (l:List Value) (x:Value):Prop:=
 (x= .slice none 0 0∧l=[])∨∃k c,x= .slice (some ⟨b,0,none⟩) l.length c∧b<A.next∧dD A e b k l∧(c=2*l.length∨(c=fe l.length 1∧(k= .row∨k= .mark)))
theorem pQ.same {e:TypeId} {l:List Value} {x:Value} (h:pQ A e b l x) (hn:A.next≤A'.next) (hg:b<A.next→A'.get b=A.get b):pQ A' e b l x:=by
 rcases h with h|⟨k,c,h1,h2,h3,h4⟩
 ·exact .inl h
 ·exact .inr ⟨k,c,h1,Yt h2 hn,h3.same (hg h2),h4⟩
theorem pQ.len {e t t':TypeId} {l:List Value} {x:Value} (h:pQ A e b l x) (hu:tb.bp t=some (.slice t')):aO tb .len [t] [x]= .ok (.int .i64 (l.length:Nat)):=by
 rcases h with⟨rfl,rfl⟩|⟨k,c,rfl,-⟩<;>exact dJ hu
theorem pQ.idx {e t t':TypeId} {i:Nat} {kd:IntKind} {l:List Value} {x:Value} (h:pQ A e b l x) (hu:tb.bp t=some (.slice t')) (hs:aY tb t'= .ok 1) (hi:i<l.length):
 aZ tb t x (.int kd (i:Int))= .ok (.pointer (some ⟨b,i,none⟩)):=by
 rcases h with⟨rfl,rfl⟩|⟨k,c,rfl,-⟩
 ·simp at hi
 ·rw [fZ hu hs hi,Yy]
theorem pQ.load {e t:TypeId} {d:TypeDesc} {l:List Value} {x:Value} (h:pQ A e b l x) (hu:tb.bp t=some d) (ha:cN d=false) (hv:l[o]?=some v):
 aq tb A.get t (.pointer (some ⟨b,o,none⟩))= .ok v:=by
 rcases h with⟨rfl,rfl⟩|⟨k,c,rfl,h2,h3,-⟩
 ·simp at hv
 ·exact bf hu ha h3 hv
theorem pQ.cells {e:TypeId} {l:List Value} {x:Value} (h:pQ A e b l x):x.cells.toList=[x]:=by
 rcases h with⟨rfl,rfl⟩|⟨k,c,rfl,-⟩<;>rfl
theorem pQ.one {e:TypeId} {l:List Value} {x:Value} (h:pQ A e b l x):aJ x=true:=by
 rcases h with⟨rfl,rfl⟩|⟨k,c,rfl,-⟩<;>rfl
theorem A9 (l:List UInt8):(strOf l).cells.toList=[strOf l]:=rfl
theorem dQ (k:IntKind) (n:Int):(Value.int k n).cells.toList=[.int k n]:=rfl
theorem Ao (a:Option Addr) (n c:Nat):(Value.slice a n c).cells.toList=[.slice a n c]:=rfl
theorem au (l:List Value):(Value.agg ⟨l⟩).cells.toList=l:=rfl
theorem k7 {a b:Bool}:hZ .neq (some .bool) (.bool a) (.bool b)= .ok (.bool (a !=b)):=by cases a<;>cases b<;>rfl
theorem dx (f:Fn) (a b:Array Value):(Value.func f a b).cells.toList=[.func f a b]:=rfl
theorem builtin_append (A:Mem) (st xt:TypeId) (s x:Value):gz tb A .append [st,xt] [s,x]=bk tb A st xt s x:=rfl
theorem pQ.append {st xt e:TypeId} {i:TypeInfo} {z:Value} {b2:Nat} {l:List Value} {x:Value} (h:pQ A e b l x) (hst:tb.bp st=some (.slice e)) (hxt:tb.bp xt=some (.slice e)) (hz:cq tb e= .ok (1,[z])) (hi:tb.ty.get e=some i) (hib:0<i.bytes) (hib':i.bytes≤65536)
 (hl:l.length<16777216) (hb2:A.get b2=some (aa e [v])) (h1c:aJ v=true):
 ∃x' A',bk tb A st xt x (.slice (some ⟨b2,0,none⟩) 1 2)= .ok (x',A')∧pQ A' e A.next (l++[v]) x'∧A'.next=A.next+1∧∀y,y≠b→y<A.next→A'.get y=A.get y:=by
 have he1:(1:Nat)<65536:=by omega
 have hnew:gX A.get 1 1 (.slice (some ⟨b2,0,none⟩) 1 2)= .ok [v]:=ke (l:=[v]) (ee (e:=e) (k:=.var 1) hb2);have hlim:(X5 (l.length+1) 16777216&&X5 i.bytes 65536&&Ye 0 i.bytes&&Ye 0 1&&Ye 1 65536)=true:=by
  have a1:X5 (l.length+1) 16777216=true:=YY (by omega);have a2:X5 i.bytes 65536=true:=YY hib';have a3:Ye 0 i.bytes=true:=by rw [Yl];exact hib
  rw [a1,a2,a3];rfl
 have fin:∀(k':Kd) (A0:Mem),A0.next=A.next→(∀y,y≠b→A0.get y=A.get y)→(k'= .row∨k'= .mark)→
  pQ (A0.alloc (.cells e k' 0 (T.bJ .e 0 (l++[v])))) e A.next (l++[v]) (.slice (some ⟨A.next,0,none⟩) (l.length+1) (fe (l.length+1) 1))∧(A0.alloc (.cells e k' 0 (T.bJ .e 0 (l++[v])))).next=A.next+1∧∀y,y≠b→y<A.next→(A0.alloc (.cells e k' 0 (T.bJ .e 0 (l++[v])))).get y=A.get y:=by
  intro k' A0 hn hg hk';refine⟨.inr ⟨k',_,by rw [X'];rfl,by rw [ae];omega,ee ?_,.inr ⟨by rw [X'];rfl,hk'⟩⟩,by rw [ae,hn],fun y hy hlt=>?_⟩
  ·rw [←hn];exact aD _ _
  ·rw [aH (by omega),hg y hy]
 rcases h with⟨rfl,rfl⟩|⟨k,c,rfl,h2,h3,h4⟩
 ·refine⟨.slice (some ⟨A.next,0,none⟩) 1 (fe 1 1),A.alloc (.cells e .row 0 (T.bJ .e 0 [v])),?_,?_⟩
  ·unfold bk cU;have hble:X5 (0+1) (bN 0)=false:=rfl;have hx:eA 0=true:=rfl;have hel:c_ A.get 1 0 none= .ok []:=rfl;simp only [hst,hxt,gu,cond_false,hz,R.aA,jC,hnew,hble,hi];simp only [Ys,Yy] at hlim;simp only [Yy,hlim,cond_true,hel,R.aA,hx,Y6]
  ·exact fin .row A rfl (fun _ _=>rfl) (.inl rfl)
 ·obtain⟨cs,hb',hcs⟩:=h3;have hel:c_ A.get 1 l.length (some ⟨b,0,none⟩)= .ok l:=ke ⟨cs,hb',hcs⟩;rcases h4 with rfl|⟨rfl,hk⟩
  ·have hx:eA (2*l.length)=true:=by show Yc (2*l.length % 2) 0=true;rw [Nat.mul_mod_right];rfl
   have hcn:bN (2*l.length)=l.length:=by unfold bN;rw [hx,cond_true];show 2*l.length/2=l.length;omega
   have hble:X5 (l.length+1) (bN (2*l.length))=false:=by
    rw [hcn];cases hq:X5 (l.length+1) l.length with
    |false=>rfl
    |true=>have:=Yx hq;omega
   refine⟨_,A.alloc (.cells e .row 0 (T.bJ .e 0 (l++[v]))),?_,fin .row A rfl (fun _ _=>rfl) (.inl rfl)⟩;unfold bk cU;simp only [hst,hxt,gu,cond_false,hz,R.aA,jC,hnew,hble,hi,hlim,cond_true,hel,hx]
  ·have hble:X5 (l.length+1) (bN (fe l.length 1))=false:=by
    rw [cm he1];cases hq:X5 (l.length+1) l.length with
    |false=>rfl
    |true=>have:=Yx hq;omega
   have hx:eA (fe l.length 1)=false:=cH _ _;have he:Yc (iQ (fe l.length 1)) 1=true:=by rw [dG he1];rfl
   have hfz:(X5 0 (0+l.length*1)&&(Yc e e&&Ye 0 9223372036854775808))=true:=by
    have h0:Ye 0 9223372036854775808=true:=by rw [Yl];omega
    rw [h0];simp
   refine⟨_,(A.set b .dead).alloc (.cells e k 0 (T.bJ .e 0 (l++[v]))),?_,fin k (A.set b .dead) (aX _ _ _) (fun y hy=>by rw [aL,if_neg hy]) hk⟩;unfold bk cU;simp only [hst,hxt,gu,cond_false,hz,R.aA,jC,hnew,hble,hi,hlim,cond_true,hel,hx,he,List.all_cons,List.all_nil,h1c,qau,hb',hfz];rcases hk with rfl|rfl<;>rfl
def ML (tb:bI) (ops:List Oper) (fl:List (Nat×Nat)):Bool:=
 match gR tb ops with
 | .ok l=>decide (l=fl)
 |_=>false
theorem aC {id:Nat} {ops:Array Oper} {s:St} (fl:List (Nat×Nat)) (h:ML tb ops.toList fl=true):exec tb (n+1) (.region id ops true) s=(dU tb (exec tb n) ops.toList fl ops.toList 0 [] [] [] s).bind fun(e,s)=>match e with
 | .nrm=>.ok (.nrm,s)
 |_=>.no 312:=by
 have h':gR tb ops.toList= .ok fl:=by
  unfold ML at h;split at h
  ·rename_i l hl;rw [hl,of_decide_eq_true h]
  ·cases h
 show((gR tb ops.toList).bind fun fl=>(dU tb (exec tb n) ops.toList fl ops.toList 0 [] [] [] s).bind fun(e,s)=>_)=_;rw [h'];rfl
section
variable {ops l:List Oper} {fl:List (Nat×Nat)} {dst:Option Tmp} {op:Op} {ty:TypeId} {pos:String} {after:Array Edge} {i:Nat} {mems:List (Nat×Mem)} {recs:List Rec} {mks:List (Nat×Nat)} {s:St}
theorem Ff:dU tb ih ops fl [] i mems recs mks s= .ok (.nrm,s):=rfl
theorem oW : dU tb ih ops fl ({ dst, op, type := ty, pos, after, guard := none } :: l) i mems recs mks s = match cls tb op with
        | .L => dI tb ih { dst, op, type := ty, pos, after, guard := none } { s with m := eS ((mks.filter fun x => b6 x.1 i fl).map (·.2)) s.m } fun s' =>
          (gF s.m.get ((mks.filter fun x => b6 x.1 i fl).map (·.2)) s'.m).bind fun A =>
          bif (recs.filter fun x => b6 x.i i fl).all (dY tb A.get) then dU tb ih ops fl l (i + 1) ((i, s.m) :: mems) recs mks { s' with m := A } else .no 310
        | .Rd => (nf tb s.t s.m.get op).bind fun v =>
          bif (mems.filter fun m => b6 i m.1 fl).all (fun m => dY tb m.2.get ⟨i, s.t, op, v⟩) then bP s dst v (dU tb ih ops fl l (i + 1) mems (⟨i, s.t, op, v⟩ :: recs) mks) else .no 311
        | .Al => dI tb ih { dst, op, type := ty, pos, after, guard := none } s fun s' => dU tb ih ops fl l (i + 1) (yc s.m.next (s'.m.get s.m.next) mems) recs ((i, s.m.next) :: mks) s'
        | .P => dI tb ih { dst, op, type := ty, pos, after, guard := none } s (dU tb ih ops fl l (i + 1) mems recs mks) := rfl
theorem N6 (h:cls tb op= .P):dU tb ih ops fl ({dst,op,type:=ty,pos,after,guard:=none}::l) i mems recs mks s=dI tb ih {dst,op,type:=ty,pos,after,guard:=none} s (dU tb ih ops fl l (i+1) mems recs mks):=by
 rw [oW,h]
theorem IS (h:cls tb op= .Al):dU tb ih ops fl ({dst,op,type:=ty,pos,after,guard:=none}::l) i mems recs mks s=dI tb ih {dst,op,type:=ty,pos,after,guard:=none} s fun s'=>dU tb ih ops fl l (i+1) (yc s.m.next (s'.m.get s.m.next) mems) recs ((i,s.m.next)::mks) s':=by
 rw [oW,h]
def nw {α:Type} (p:Nat→Bool):List (Nat×α)→List (Nat×α)
 | []=>[]
 |x::l=>bif p x.1 then x::nw p l else nw p l
theorem Ei {α:Type} (p:Nat→Bool):nw p ([]:List (Nat×α))=[]:=rfl
theorem DN {α:Type} {p:Nat→Bool} {j:Nat} {a:α} {l:List (Nat×α)} (h:p j=true):nw p ((j,a)::l)=(j,a)::nw p l:=by simp [nw,h]
theorem IP {α:Type} {p:Nat→Bool} {j:Nat} {a:α} {l:List (Nat×α)} (h:p j=false):nw p ((j,a)::l)=nw p l:=by simp [nw,h]
theorem we {α:Type} (p:Nat→Bool) (l:List (Nat×α)):(l.filter fun x=>p x.1)=nw p l:=by
 induction l with
 |nil=>rfl
 |cons x l ih=>
  unfold nw;cases h:p x.1<;>simp [h,ih]
def ux (p:Nat→Bool):List Rec→List Rec
 | []=>[]
 |x::l=>bif p x.i then x::ux p l else ux p l
theorem C4 (p:Nat→Bool):ux p []=[]:=rfl
theorem Ej {p:Nat→Bool} {j:Nat} {o:Op} {l:List Rec} (h:p j=true):ux p (⟨j,t,o,v⟩::l)=⟨j,t,o,v⟩::ux p l:=by simp [ux,h]
theorem IA {p:Nat→Bool} {j:Nat} {o:Op} {l:List Rec} (h:p j=false):ux p (⟨j,t,o,v⟩::l)=ux p l:=by simp [ux,h]
theorem H0 (p:Nat→Bool) (l:List Rec):(l.filter fun x=>p x.i)=ux p l:=by
 induction l with
 |nil=>rfl
 |cons x l ih=>
  unfold ux;cases h:p x.i<;>simp [h,ih]
def kq (tb:bI) (x:Rec):List (Nat×Mem)→Bool
 | []=>true
 |m::l=>dY tb m.2.get x&&kq tb x l
theorem uV (x:Rec):kq tb x []=true:=rfl
theorem rM (x:Rec) (j:Nat) (A:Mem) (l:List (Nat×Mem)):kq tb x ((j,A)::l)=(dY tb A.get x&&kq tb x l):=rfl
theorem xA (x:Rec) (l:List (Nat×Mem)):(l.all fun m=>dY tb m.2.get x)=kq tb x l:=by
 induction l with
 |nil=>rfl
 |cons m l ih=>simp [kq,ih]
def ki (tb:bI) (g:Nat→Option Ob):List Rec→Bool
 | []=>true
 |m::l=>dY tb g m&&ki tb g l
theorem va (g:Nat→Option Ob):ki tb g []=true:=rfl
theorem rz (g:Nat→Option Ob) (x:Rec) (l:List Rec):ki tb g (x::l)=(dY tb g x&&ki tb g l):=rfl
theorem yN (g:Nat→Option Ob) (l:List Rec):(l.all (dY tb g))=ki tb g l:=by
 induction l with
 |nil=>rfl
 |cons m l ih=>simp [ki,ih]
def Cq (x:R Value) (v:Value):Bool:=
 match x with
 | .ok v'=>cD 100 v' v
 | .no _=>false
theorem vk (g:Nat→Option Ob) (j:Nat) (t:T Value) (e:TypeId) (x:Tmp) (v:Value):dY tb g ⟨j,t,.load e (.tmp x),v⟩=Cq ((ev t (.tmp x)).bind fun x=>aq tb g e x) v:=rfl
theorem pc (b o n c:Nat):cD 100 (.slice (some ⟨b,o,none⟩) n c) (.slice (some ⟨b,o,none⟩) n c)=true:=by simp [cD,xD,rL]
theorem eg (k:IntKind) (n:Nat) (h:dS k k=true):cD 100 (.int k (n:Int)) (.int k (n:Int))=true:=by
 have:mL (n:Int) (n:Int)=true:=by rw [sw];simp
 simp [cD,h,this]
theorem yQ (v w:Value):Cq (.ok v) w=cD 100 v w:=rfl
theorem HM (h:cls tb op= .Rd):dU tb ih ops fl ({dst,op,type:=ty,pos,after,guard:=none}::l) i mems recs mks s=(nf tb s.t s.m.get op).bind fun v=>
 bif kq tb ⟨i,s.t,op,v⟩ (nw (fun j=>b6 i j fl) mems) then bP s dst v (dU tb ih ops fl l (i+1) mems (⟨i,s.t,op,v⟩::recs) mks) else .no 311:=by
 rw [oW,h];simp only [we (fun j=>b6 i j fl) mems,xA]
theorem Om (h:cls tb op= .L):dU tb ih ops fl ({dst,op,type:=ty,pos,after,guard:=none}::l) i mems recs mks s=
 dI tb ih {dst,op,type:=ty,pos,after,guard:=none} {s with m:=eS ((nw (fun j=>b6 j i fl) mks).map (·.2)) s.m} fun s'=>
  (gF s.m.get ((nw (fun j=>b6 j i fl) mks).map (·.2)) s'.m).bind fun A=>
  bif ki tb A.get (ux (fun j=>b6 j i fl) recs) then dU tb ih ops fl l (i+1) ((i,s.m)::mems) recs mks {s' with m:=A} else .no 310:=by
 rw [oW,h];simp only [we (fun j=>b6 j i fl) mks,H0 (fun j=>b6 j i fl) recs,yN]
theorem Fa {j:Nat} {want:Bool} (h:e_ ops {dst,op,type:=ty,pos,after,guard:=some (j,want)} s.t= .ok false):dU tb ih ops fl ({dst,op,type:=ty,pos,after,guard:=some (j,want)}::l) i mems recs mks s=bP s dst cM (dU tb ih ops fl l (i+1) mems recs mks):=by
 show((e_ ops {dst,op,type:=ty,pos,after,guard:=some (j,want)} s.t).bind fun w=>bif w then _ else bP s dst cM (dU tb ih ops fl l (i+1) mems recs mks))=_;rw [h];rfl
theorem s9 {j : Nat} {want : Bool} (h : e_ ops { dst, op, type := ty, pos, after, guard := some (j, want) } s.t = .ok true) : dU tb ih ops fl ({ dst, op, type := ty, pos, after, guard := some (j, want) } :: l) i mems recs mks s = match cls tb op with
        | .L => dI tb ih { dst, op, type := ty, pos, after, guard := some (j, want) } { s with m := eS ((mks.filter fun x => b6 x.1 i fl).map (·.2)) s.m } fun s' =>
          (gF s.m.get ((mks.filter fun x => b6 x.1 i fl).map (·.2)) s'.m).bind fun A =>
          bif (recs.filter fun x => b6 x.i i fl).all (dY tb A.get) then dU tb ih ops fl l (i + 1) ((i, s.m) :: mems) recs mks { s' with m := A } else .no 310
        | .Rd => (nf tb s.t s.m.get op).bind fun v =>
          bif (mems.filter fun m => b6 i m.1 fl).all (fun m => dY tb m.2.get ⟨i, s.t, op, v⟩) then bP s dst v (dU tb ih ops fl l (i + 1) mems (⟨i, s.t, op, v⟩ :: recs) mks) else .no 311
        | .Al => dI tb ih { dst, op, type := ty, pos, after, guard := some (j, want) } s fun s' => dU tb ih ops fl l (i + 1) (yc s.m.next (s'.m.get s.m.next) mems) recs ((i, s.m.next) :: mks) s'
        | .P => dI tb ih { dst, op, type := ty, pos, after, guard := some (j, want) } s (dU tb ih ops fl l (i + 1) mems recs mks) := by
  show ((e_ ops { dst, op, type := ty, pos, after, guard := some (j, want) } s.t).bind fun w => bif w then _ else _) = _
  rw [h]; rfl
section
variable {j:Nat} {want:Bool} (hw:e_ ops {dst,op,type:=ty,pos,after,guard:=some (j,want)} s.t= .ok true)
include hw
theorem IM (h:cls tb op= .P):dU tb ih ops fl ({dst,op,type:=ty,pos,after,guard:=some (j,want)}::l) i mems recs mks s=dI tb ih {dst,op,type:=ty,pos,after,guard:=some (j,want)} s (dU tb ih ops fl l (i+1) mems recs mks):=by
 rw [s9 hw,h]
theorem EV (h:cls tb op= .Al):dU tb ih ops fl ({dst,op,type:=ty,pos,after,guard:=some (j,want)}::l) i mems recs mks s=dI tb ih {dst,op,type:=ty,pos,after,guard:=some (j,want)} s fun s'=>dU tb ih ops fl l (i+1) (yc s.m.next (s'.m.get s.m.next) mems) recs ((i,s.m.next)::mks) s':=by
 rw [s9 hw,h]
theorem En (h:cls tb op= .Rd):dU tb ih ops fl ({dst,op,type:=ty,pos,after,guard:=some (j,want)}::l) i mems recs mks s=(nf tb s.t s.m.get op).bind fun v=>
 bif kq tb ⟨i,s.t,op,v⟩ (nw (fun j=>b6 i j fl) mems) then bP s dst v (dU tb ih ops fl l (i+1) mems (⟨i,s.t,op,v⟩::recs) mks) else .no 311:=by
 rw [s9 hw,h];simp only [we (fun j=>b6 i j fl) mems,xA]
theorem Jm (h:cls tb op= .L):dU tb ih ops fl ({dst,op,type:=ty,pos,after,guard:=some (j,want)}::l) i mems recs mks s=
 dI tb ih {dst,op,type:=ty,pos,after,guard:=some (j,want)} {s with m:=eS ((nw (fun j=>b6 j i fl) mks).map (·.2)) s.m} fun s'=>
  (gF s.m.get ((nw (fun j=>b6 j i fl) mks).map (·.2)) s'.m).bind fun A=>
  bif ki tb A.get (ux (fun j=>b6 j i fl) recs) then dU tb ih ops fl l (i+1) ((i,s.m)::mems) recs mks {s' with m:=A} else .no 310:=by
 rw [s9 hw,h];simp only [we (fun j=>b6 j i fl) mks,H0 (fun j=>b6 j i fl) recs,yN]
end
theorem zX (l:List UInt8):cD 100 (strOf l) (strOf l)=true:=by
 show eJ l l=true;rw [dv];simp
theorem Dp (b:Nat) (o:Option Ob):yc b o []=[]:=by cases o<;>rfl
theorem zO (b:Nat) (o:Ob) (j:Nat) (A:Mem) (l:List (Nat×Mem)):yc b (some o) ((j,A)::l)=(j,A.set b o)::yc b (some o) l:=rfl
theorem zT (g:Nat→Option Ob) (A:Mem):gF g [] A= .ok A:=rfl
theorem E9 (t:T Value) (g:Nat→Option Ob) (e:TypeId) (x:Tmp):nf tb t g (.load e (.tmp x))=(ev t (.tmp x)).bind fun x=>aq tb g e x:=rfl
end
end
section
variable {tb:bI}
theorem n6 (n:Nat) (f:Operand) (ps:Array Tmp) (a b:Code) (s:St):exec tb (n+1) (.rangeFunc f ps a b) s=gv tb (exec tb n) f ps.toList a b 0 s:=rfl
def oP (t:T Value) (n:Nat) (ps:List Tmp) (a b:Code) (d:Nat):gI:={state:=.ready,pending:=none,fn:=0,tmps:=t,n:=n,params:=ps,assign:=a,body:=b,defers:=d}
variable {t:T Value} {n:Nat} {A A':Mem} {v:Value}
theorem W.tu {f:Operand} {ps:Array Tmp} {a b:Code} {K:Ex→St→Prop} {fid:FuncId} {first capt:List Value} {r:gI}
 (hf:ev t f= .ok (.func (.func fid) ⟨first⟩ ⟨capt⟩))
 (hc:bL tb fid (first++[.func (.yield (A.next+1)) ⟨[]⟩ ⟨[]⟩]++capt) ((A.alloc .defd).alloc (.loop (oP t n ps.toList a b A.next))) v A')
 (hr:A'.get (A.next+1)=some (.loop r)) (hst:r.state≠ .busy) (hp:r.pending=none)
 (k:K .nrm ⟨t,n,[A.next],A'.set (A.next+1) (.loop {r with state:=.exhausted}),none⟩):W tb (.rangeFunc f ps a b) ⟨t,n,[],A,none⟩ K:=by
 obtain⟨g,hg⟩:=hc;refine⟨_,_,⟨g+1,fun m=>?_⟩,k⟩;rw [show m+(g+1)=(m+g)+1 by omega,n6];have h1:=hg (m+g) (by omega);unfold gv;simp only [hf,R.aA];have hn:(A.alloc .defd).next=A.next+1:=ae _ _
 rw [hn];have hcal:∀g':Nat→Option Ob,jl tb g' (.func (.func fid) ⟨first⟩ ⟨capt⟩) [.func (.yield (A.next+1)) ⟨[]⟩ ⟨[]⟩]= .ok (.fn fid (first++[.func (.yield (A.next+1)) ⟨[]⟩ ⟨[]⟩]++capt)):=fun _=>rfl
 rw [hcal,R.aA];unfold oP at h1;rw [h1,R.aA];simp only [hr,hp];cases hs:r.state with
 |busy=>exact absurd hs hst
 |_=>rfl
theorem mI {l:Nat} {args:List Value} {r:gI} {Q:Mem→Prop} (hl:A.get l=some (.loop r)) (ht:setArgs r.n r.params args r.tmps= .ok t)
 (h:W tb r.assign ⟨t,r.n,[],A,some l⟩ fun e s1=>e= .nrm∧∃r1,s1.m.get l=some (.loop r1)∧r1.state= .ready∧W tb r.body ⟨s1.t,s1.n,s1.d,s1.m.set l (.loop {r1 with state:=.busy}),s1.ro⟩ fun e s2=>e= .nrm∧s2.d=[]∧∃r2,s2.m.get l=some (.loop r2)∧Q (s2.m.set l (.loop {r2 with state:=.ready,pending:=none}))):
 ∃A',(∃g,∀M,g≤M→bg tb (exec tb M) (.round l args) A= .ok (.val (.bool true) A'))∧Q A':=by
 obtain⟨e,s1,⟨f1,h1⟩,rfl,r1,hr1,hst1,e2,s2,⟨f2,h2⟩,rfl,hd,r2,hr2,hQ⟩:=h;refine⟨_,⟨f1+f2,fun M hM=>?_⟩,hQ⟩;show rf (exec tb M) l args A=_;unfold rf;have e1:=h1 (M-f1);rw [qak (by omega)] at e1;have e2:=h2 (M-f2);rw [qak (by omega)] at e2;simp only [hl,ht,R.aA,e1,hr1,hst1,e2,hd,hr2]
end
section
variable {tb:bI} (ok:cg tb)
include ok in
theorem FC {n:Nat} {f:FuncId} {args:List Value} {v:Value} {A A':Mem} (h:call tb n f args A= .ok (.val v A')) {fn:Func} {c:Code} (hf:tb.fn.get f=some fn) (hb:fn.body=some c) (args':Array Value) (w:World) {ι:da} (hr:Rel ι A w)
 (ha:dH ι args args'.toList) (hfree:∀b,A.next≤b→ι b=none) (hst:∀b l,live A b→ι b=some l→Still A b l):Calls tb.P f args' w fun e w'=>∃ι' v',e= .returned v'∧VR ι' v v'∧Leaves w w':=by
 intro cs;unfold call at h;simp only [hf,hb] at h;rcases xZ ok (jU ok n) hf hb h with⟨_,_,h1,_⟩|⟨v,A',h1,hle,hs⟩
 ·cases h1
 ·cases h1;obtain⟨ι',w',v',⟨fr0,st,hfn,hlv⟩,hv,hrel,hstp⟩:=hs ι w args' cs hr ha (fun b h1 _=>hfree b h1);refine⟨.returned v',w',fr0,⟨ι',v',rfl,hv,fun c hc=>?_,hstp.size,hstp.os,hstp.tape,hstp.output⟩,st,hfn,hlv⟩;by_cases hx:∃b l,live A b∧ι b=some l∧l.blk=c
  ·obtain⟨b,l,h1,h2,rfl⟩:=hx;exact(hstp.kept b l h2 (hst b l h1 h2)).2
  ·exact hstp.fr c hc fun b l h1 h2 h3=>hx ⟨b,l,h1,h2,h3⟩
end
section
variable {tb:bI}
theorem xY (m:Nat):∀(vs:List Value) (i:Nat) (c:T Value),(∀v∈vs,aJ v=true)→(∀j,j<vs.length→∃y,c.get (i+j)=some y)→dW m 0 vs i c= .ok (c.bJ i vs)
 | [],_,_,_,_=>rfl
 |v::vs,i,c,h1,h2=>by
  unfold dW;have hb:(aJ v&&X5 0 i)=true:=by rw [h1 v (Yk ..)];simp
  obtain⟨y,hy⟩:=h2 0 (by simp);rw [YU] at hy;rw [hb,cond_true,hy];refine xY m vs (i+1) (c.set i v) (fun w hw=>h1 w (Yi _ hw)) fun j hj=>?_
  rw [T.af];by_cases e:i+1+j=i
  ·omega
  ·rw [if_neg e];obtain⟨y,hy⟩:=h2 (j+1) (by simp;omega);exact⟨y,by rw [←hy];congr 1;omega⟩
variable {A:Mem} {b:Nat} {l l':List Value}
theorem bx {e t:TypeId} {k:Kd} (hs:aY tb t= .ok l.length) (h:dD A e b k l) (hl:l'.length=l.length) (h0:l≠ []) (h1:∀v∈l',aJ v=true):
 ∃A',aW tb A t (.pointer (some ⟨b,0,none⟩)) (.agg ⟨l'⟩)= .ok A'∧dD A' e b k l'∧A'.next=A.next∧∀x,x≠b→A'.get x=A.get x:=by
 obtain⟨c,h2,h3⟩:=h;have hst:dW (yH k) 0 l' 0 c= .ok (c.bJ 0 l'):=xY _ l' 0 c h1 fun j hj=>by
  rw [Yy,h3 j (by omega),X6 (show j<l.length by omega)];exact⟨_,rfl⟩
 refine⟨A.set b (.cells e k 0 (c.bJ 0 l')),?_,⟨_,by rw [aL,if_pos rfl],fun i hi=>?_⟩,aX _ _ _,fun x hx=>by rw [aL,if_neg hx]⟩
 ·unfold aW;have hc:(Value.agg ⟨l'⟩).cells.toList=l':=rfl;simp only [hs,R.aA,hc];have hb:Yc l'.length l.length=true:=by rw [hl];simp
  rw [hb,cond_true];cases l' with
  |nil=>cases l with
   |nil=>exact absurd rfl h0
   |cons _ _=>simp at hl
  |cons v vs=>
   unfold cI;simp only [h2,hst,R.aA]
 ·rw [T.en,if_pos ⟨Yg _,by omega⟩,Zd]
theorem aQ {e t:TypeId} {k:Kd} {d:TypeDesc} (hu:tb.bp t=some d) (ha:cN d=true) (hs:aY tb t= .ok l.length) (h:dD A e b k l):aq tb A.get t (.pointer (some ⟨b,0,none⟩))= .ok (.agg ⟨l⟩):=by
 obtain⟨c,h1,h2⟩:=h;have hg:c.ji l.length 0=some l:=gL _ _ _ _ rfl fun j hj=>by rw [Yy];exact h2 j hj
 unfold aq;simp only [h1,hu,ha,cond_true,hs,R.aA,hg]
theorem gQ (A:Mem) (e:TypeId) (l:List Value):dD (A.alloc (aa e l)) e A.next (.var l.length) l:=ee (aD _ _)
variable {n:Nat}
theorem db:∀{ls:List (List Value)},(∀l∈ls,l.length=n)→ls.flatten.length=ls.length*n
 | [],_=>by simp
 |l::ls,h=>by
  rw [qaR,X',db (fun x hx=>h x (Yi _ hx)),h l (Yk ..),Yf,qaa,qaz,qa4]
theorem eR:∀{ls:List (List Value)} {i j:Nat} {l:List Value},(∀l∈ls,l.length=n)→ls[i]?=some l→j<n→ls.flatten[i*n+j]?=l[j]?
 | [],i,j,l,_,hi,_=>by simp at hi
 |l0::ls,0,j,l,h,hi,hj=>by
  simp only [X8,YB] at hi;subst hi;rw [qaR,qaE,Yy,Yz (by rw [h _ (Yk ..)];exact hj)]
 |l0::ls,i+1,j,l,h,hi,hj=>by
  simp only [X7] at hi;have hl0:=h l0 (Yk ..);rw [qaR,YA (by rw [hl0,qaa];omega),hl0,show(i+1)*n+j-n=i*n+j by rw [qaa,qaz];omega];exact eR (fun x hx=>h x (Yi _ hx)) hi hj
def az (A:Mem) (e:TypeId) (n b:Nat) (ls:List (List Value)) (x:Value):Prop:=
 (x= .slice none 0 0∧ls=[])∨∃k c,x= .slice (some ⟨b,0,none⟩) ls.length c∧b<A.next∧dD A e b k ls.flatten∧(∀l∈ls,l.length=n)∧(c=2*ls.length∨(c=fe ls.length n∧(k= .row∨k= .mark)))
theorem az.nil (A:Mem) (e:TypeId) (n b:Nat):az A e n b [] (.slice none 0 0):=.inl ⟨rfl,rfl⟩
variable {A':Mem} {ls:List (List Value)}
theorem az.same {e:TypeId} {x:Value} (h:az A e n b ls x) (hn:A.next≤A'.next) (hg:b<A.next→A'.get b=A.get b):az A' e n b ls x:=by
 rcases h with h|⟨k,c,h1,h2,h3,h4⟩
 ·exact .inl h
 ·exact .inr ⟨k,c,h1,Yt h2 hn,h3.same (hg h2),h4⟩
theorem az.len {e t t':TypeId} {x:Value} (h:az A e n b ls x) (hu:tb.bp t=some (.slice t')):aO tb .len [t] [x]= .ok (.int .i64 (ls.length:Nat)):=by
 rcases h with⟨rfl,rfl⟩|⟨k,c,rfl,-⟩<;>exact dJ hu
variable {i:Nat}
theorem az.idx {e t t':TypeId} {kd:IntKind} {x:Value} (h:az A e n b ls x) (hu:tb.bp t=some (.slice t')) (hs:aY tb t'= .ok n) (hi:i<ls.length):
 aZ tb t x (.int kd (i:Int))= .ok (.pointer (some ⟨b,i*n,none⟩)):=by
 rcases h with⟨rfl,rfl⟩|⟨k,c,rfl,-⟩
 ·simp at hi
 ·have hb:Ye i ls.length=true:=by rw [Yl];exact hi
  have hn:lP (.int kd (i:Int))= .ok i:=rfl;unfold aZ;simp only [hn,hu,hb,cond_true,hs,R.aA,jh,Yy]
variable {j:Nat} {v:Value}
theorem az.load {e t:TypeId} {d:TypeDesc} {x:Value} (h:az A e n b ls x) (hu:tb.bp t=some d) (ha:cN d=false) (hi:ls[i]?=some l) (hj:l[j]?=some v) (hjn:j<n):
 aq tb A.get t (.pointer (some ⟨b,i*n+j,none⟩))= .ok v:=by
 rcases h with⟨rfl,rfl⟩|⟨k,c,rfl,h2,h3,h4,-⟩
 ·simp at hi
 ·exact bf hu ha h3 (by rw [eR h4 hi hjn];exact hj)
theorem az.aQ {e t:TypeId} {d:TypeDesc} {x:Value} (h:az A e n b ls x) (hu:tb.bp t=some d) (ha:cN d=true) (hs:aY tb t= .ok n) (hi:ls[i]?=some l):
 aq tb A.get t (.pointer (some ⟨b,i*n,none⟩))= .ok (.agg ⟨l⟩):=by
 rcases h with⟨rfl,rfl⟩|⟨k,c,rfl,h2,⟨cs,h5,h6⟩,h4,-⟩
 ·simp at hi
 ·have hl:l.length=n:=h4 l (YF hi);have hlen:=db h4;have hil:i<ls.length:=(X_.1 hi).1;have hg:cs.ji n (i*n)=some l:=gL _ _ _ _ hl fun j hj=>by
   rw [h6 (i*n+j) (by
    rw [hlen];have:=qaq n (show i+1≤ls.length from hil);rw [qaa,qaz] at this;omega),eR h4 hi hj]
  unfold aq;simp only [h5,hu,ha,cond_true,hs,R.aA,hg]
variable {m:Nat}
theorem ek {e:TypeId} {k:Kd} (h:dD A e b k l) (hl:l.length=m*n):c_ A.get n m (some ⟨b,0,none⟩)= .ok l:=by
 obtain⟨c,h1,h2⟩:=h;unfold c_;simp only [];cases hn:Yc (m*n) 0 with
 |true=>
  have:l=[]:=Yh.1 (by rw [hl];exact Yn hn);subst this;rfl
 |false=>
  have hg:c.ji (m*n) 0=some l:=gL _ _ _ _ hl fun j hj=>by rw [Yy];exact h2 j (by omega)
  simp only [cond_false,h1,hg]
theorem az.append {st xt e:TypeId} {i:TypeInfo} {z:List Value} {b2:Nat} {x:Value} (h:az A e n b ls x) (hst:tb.bp st=some (.slice e)) (hxt:tb.bp xt=some (.slice e)) (hz:cq tb e= .ok (n,z)) (hi:tb.ty.get e=some i) (hib:0<i.bytes) (hib':i.bytes≤65536)
 (hn0:0<n) (hn1:n<65536) (hls:ls.length<16777216) (hb2:A.get b2=some (aa e l)) (hl:l.length=n) (h1c:∀v∈l,aJ v=true):
 ∃x' A',bk tb A st xt x (.slice (some ⟨b2,0,none⟩) 1 2)= .ok (x',A')∧az A' e n A.next (ls++[l]) x'∧A'.next=A.next+1∧∀y,(y=b→x= .slice none 0 0)→y<A.next→A'.get y=A.get y:=by
 have hnew:gX A.get n 1 (.slice (some ⟨b2,0,none⟩) 1 2)= .ok l:=ek (ee (e:=e) (k:=.var l.length) hb2) (by rw [qaz];exact hl);have hlim:(X5 (ls.length+1) 16777216&&X5 i.bytes 65536&&Ye 0 i.bytes&&Ye 0 n&&Ye n 65536)=true:=by
  have a1:X5 (ls.length+1) 16777216=true:=YY (by omega);have a2:X5 i.bytes 65536=true:=YY hib';have a3:Ye 0 i.bytes=true:=by rw [Yl];exact hib
  have a4:Ye 0 n=true:=by rw [Yl];exact hn0
  have a5:Ye n 65536=true:=by rw [Yl];exact hn1
  rw [a1,a2,a3,a4,a5];rfl
 have hfl:(ls++[l]).flatten=ls.flatten++l:=by simp
 have fin:∀(k':Kd) (A0:Mem),A0.next=A.next→(∀y,y≠b→A0.get y=A.get y)→(k'= .row∨k'= .mark)→(∀l∈ls,l.length=n)→
  az (A0.alloc (.cells e k' 0 (T.bJ .e 0 (ls.flatten++l)))) e n A.next (ls++[l]) (.slice (some ⟨A.next,0,none⟩) (ls.length+1) (fe (ls.length+1) n))∧(A0.alloc (.cells e k' 0 (T.bJ .e 0 (ls.flatten++l)))).next=A.next+1∧∀y,y≠b→y<A.next→(A0.alloc (.cells e k' 0 (T.bJ .e 0 (ls.flatten++l)))).get y=A.get y:=by
  intro k' A0 hn hg hk' hall;refine⟨.inr ⟨k',_,by rw [X'];rfl,by rw [ae];omega,ee ?_,fun y hy=>?_,.inr ⟨by rw [X'];rfl,hk'⟩⟩,by rw [ae,hn],fun y hy hlt=>?_⟩
  ·rw [hfl,←hn];exact aD _ _
  ·rcases Zs.1 hy with h|h
   ·exact hall y h
   ·rw [Y7.1 h];exact hl
  ·rw [aH (by omega),hg y hy]
 rcases h with⟨rfl,rfl⟩|⟨k,c,rfl,h2,h3,h4,h5⟩
 ·refine⟨.slice (some ⟨A.next,0,none⟩) 1 (fe 1 n),A.alloc (.cells e .row 0 (T.bJ .e 0 ([]++l))),?_,?_⟩
  ·unfold bk cU;have hble:X5 (0+1) (bN 0)=false:=rfl;have hx:eA 0=true:=rfl;have hel:c_ A.get n 0 none= .ok []:=rfl;simp only [hst,hxt,gu,cond_false,hz,R.aA,jC,hnew,hble,hi];simp only [Ys,Yy] at hlim;simp only [Yy,hlim,cond_true,hel,R.aA,hx]
  ·obtain⟨f1,f2,-⟩:=fin .row A rfl (fun _ _=>rfl) (.inl rfl) (fun l h=>by cases h);exact⟨f1,f2,fun y _ hy=>aH (by omega)⟩
 ·have hel:c_ A.get n ls.length (some ⟨b,0,none⟩)= .ok ls.flatten:=ek h3 (db h4);obtain⟨cs,hb',hcs⟩:=h3;rcases h5 with rfl|⟨rfl,hk⟩
  ·have hx:eA (2*ls.length)=true:=by show Yc (2*ls.length % 2) 0=true;rw [Nat.mul_mod_right];rfl
   have hcn:bN (2*ls.length)=ls.length:=by unfold bN;rw [hx,cond_true];show 2*ls.length/2=ls.length;omega
   have hble:X5 (ls.length+1) (bN (2*ls.length))=false:=by
    rw [hcn];cases hq:X5 (ls.length+1) ls.length with
    |false=>rfl
    |true=>have:=Yx hq;omega
   refine⟨_,A.alloc (.cells e .row 0 (T.bJ .e 0 (ls.flatten++l))),?_,(fin .row A rfl (fun _ _=>rfl) (.inl rfl) h4).1,(fin .row A rfl (fun _ _=>rfl) (.inl rfl) h4).2.1,fun y hy=>(fin .row A rfl (fun _ _=>rfl) (.inl rfl) h4).2.2 y (fun e=>by cases hy e)⟩;unfold bk cU;simp only [hst,hxt,gu,cond_false,hz,R.aA,jC,hnew,hble,hi,hlim,cond_true,hel,hx]
  ·have hble:X5 (ls.length+1) (bN (fe ls.length n))=false:=by
    rw [cm hn1];cases hq:X5 (ls.length+1) ls.length with
    |false=>rfl
    |true=>have:=Yx hq;omega
   have hx:eA (fe ls.length n)=false:=cH _ _;have he:Yc (iQ (fe ls.length n)) n=true:=by rw [dG hn1];simp
   have hall:l.all aJ=true:=Ze.2 h1c;have hfz:(X5 0 (0+ls.length*n)&&(Yc e e&&Ye 0 9223372036854775808))=true:=by
    have h0:Ye 0 9223372036854775808=true:=by rw [Yl];omega
    rw [h0];simp
   refine⟨_,(A.set b .dead).alloc (.cells e k 0 (T.bJ .e 0 (ls.flatten++l))),?_,(fin k (A.set b .dead) (aX _ _ _) (fun y hy=>by rw [aL,if_neg hy]) hk h4).1,(fin k (A.set b .dead) (aX _ _ _) (fun y hy=>by rw [aL,if_neg hy]) hk h4).2.1,fun y hy=>(fin k (A.set b .dead) (aX _ _ _) (fun y hy=>by rw [aL,if_neg hy]) hk h4).2.2 y (fun e=>by cases hy e)⟩;unfold bk cU;simp only [hst,hxt,gu,cond_false,hz,R.aA,jC,hnew,hble,hi,hlim,cond_true,hel,hx,he,hall,qau,hb',hfz];rcases hk with rfl|rfl<;>rfl
end
section
variable {tb:bI}
def SU (A:Mem) (e:TypeId) (n b:Nat) (ls:List (List Value)) (x:Value):Prop:=
 (x= .slice none 0 0∧ls=[])∨∃k c ex,x= .slice (some ⟨b,0,none⟩) ls.length c∧b<A.next∧dD A e b k (ls.flatten++ex)∧(∀l∈ls,l.length=n)∧eG c n=true∧ls.length≤bN c
variable {A:Mem} {n b:Nat} {ls:List (List Value)}
theorem az.Ai {e:TypeId} {x:Value} (hn:n<65536) (h:az A e n b ls x):SU A e n b ls x:=by
 rcases h with h|⟨k,c,h1,h2,h3,h4,h5⟩
 ·exact .inl h
 ·refine .inr ⟨k,c,[],h1,h2,by rw [Y'];exact h3,h4,?_,?_⟩
  ·rcases h5 with rfl|⟨rfl,_⟩
   ·unfold eG;rw [gM];rfl
   ·unfold eG;rw [cH,dG hn,cond_false];exact qcf n
  ·rcases h5 with rfl|⟨rfl,_⟩
   ·rw [eT];exact X9 _
   ·rw [cm hn];exact X9 _
variable {i j:Nat}
theorem Jb (h:∀l∈ls,l.length=n) (hi:i<ls.length) (hj:j<n):i*n+j<ls.flatten.length:=by
 rw [db h];have:=qaq n (show i+1≤ls.length from hi);rw [qaa,qaz] at this;omega
theorem SU.self {e:TypeId} {x:Value} (h:SU A e n b ls x) (d:Nat):cD (d+1) x x=true:=by
 rcases h with⟨rfl,-⟩|⟨k,c,ex,rfl,-⟩
 ·rfl
 ·exact pc _ _ _ _
variable {m:Nat} {y:Value}
theorem az.oZ {st xt e:TypeId} {xd:TypeDesc} {i:TypeInfo} {z:List Value} {nl:List (List Value)} {x:Value} (h:az A e n b ls x) (hst:tb.bp st=some (.slice e)) (hxt:tb.bp xt=some xd) (hxd:gu xd=false) (hz:cq tb e= .ok (n,z)) (hi:tb.ty.get e=some i) (hib:0<i.bytes) (hib':i.bytes≤65536)
 (hn0:0<n) (hn1:n<65536) (hls:ls.length+m≤16777216) (hy:jC y= .ok m) (hnew:gX A.get n m y= .ok nl.flatten) (hm:nl.length=m) (hl:∀l∈nl,l.length=n) (h1c:∀v∈nl.flatten,aJ v=true):
 ∃x' A' b',bk tb A st xt x y= .ok (x',A')∧az A' e n b' (ls++nl) x'∧A.next≤A'.next∧(b'=b∨A.next≤b')∧∀y,(y=b→x= .slice none 0 0)→y<A.next→A'.get y=A.get y:=by
 subst hm;by_cases h0:nl.length=0
 ·have hnil:nl=[]:=Yh.1 h0;subst hnil;simp only [Ys,List.flatten_nil] at hy hnew;refine⟨x,A,b,?_,by rw [Y'];exact h,X9 _,.inl rfl,fun _ _ _=>rfl⟩;rcases h with⟨rfl,rfl⟩|⟨k,c,rfl,h2,h3,h4,h5⟩
  ·unfold bk cU;simp only [hst,hxt,hxd,cond_false,hz,R.aA,hy,hnew];rfl
  ·have hc:ls.length≤bN c:=by
    rcases h5 with rfl|⟨rfl,_⟩
    ·rw [eT];exact X9 _
    ·rw [cm hn1];exact X9 _
   have hble:X5 ls.length (bN c)=true:=YY hc;have hst0:∀a,cI A a []= .ok A:=fun _=>rfl
   unfold bk cU;simp only [hst,hxt,hxd,cond_false,hz,R.aA,hy,hnew,YU,hble,cond_true,hst0]
 have hlim:(X5 (ls.length+nl.length) 16777216&&X5 i.bytes 65536&&Ye 0 i.bytes&&Ye 0 n&&Ye n 65536)=true:=by
  have a1:X5 (ls.length+nl.length) 16777216=true:=YY (by omega);have a2:X5 i.bytes 65536=true:=YY hib';have a3:Ye 0 i.bytes=true:=by rw [Yl];exact hib
  have a4:Ye 0 n=true:=by rw [Yl];exact hn0
  have a5:Ye n 65536=true:=by rw [Yl];exact hn1
  rw [a1,a2,a3,a4,a5];rfl
 have hfl:(ls++nl).flatten=ls.flatten++nl.flatten:=by simp
 have hll:(ls++nl).length=ls.length+nl.length:=X';have fin:∀(k':Kd) (A0:Mem),A0.next=A.next→(∀y,y≠b→A0.get y=A.get y)→(k'= .row∨k'= .mark)→(∀l∈ls,l.length=n)→
  az (A0.alloc (.cells e k' 0 (T.bJ .e 0 (ls.flatten++nl.flatten)))) e n A.next (ls++nl) (.slice (some ⟨A.next,0,none⟩) (ls.length+nl.length) (fe (ls.length+nl.length) n))∧A.next≤(A0.alloc (.cells e k' 0 (T.bJ .e 0 (ls.flatten++nl.flatten)))).next∧∀y,y≠b→y<A.next→(A0.alloc (.cells e k' 0 (T.bJ .e 0 (ls.flatten++nl.flatten)))).get y=A.get y:=by
  intro k' A0 hn hg hk' hall;refine⟨.inr ⟨k',_,by rw [hll],by rw [ae];omega,ee ?_,fun y hy=>?_,.inr ⟨by rw [hll],hk'⟩⟩,by rw [ae,hn];omega,fun y hy hlt=>?_⟩
  ·rw [hfl,←hn];exact aD _ _
  ·rcases Zs.1 hy with h|h
   ·exact hall y h
   ·exact hl y h
  ·rw [aH (by omega),hg y hy]
 rcases h with⟨rfl,rfl⟩|⟨k,c,rfl,h2,h3,h4,h5⟩
 ·refine⟨.slice (some ⟨A.next,0,none⟩) (0+nl.length) (fe (0+nl.length) n),A.alloc (.cells e .row 0 (T.bJ .e 0 ([]++nl.flatten))),A.next,?_,?_⟩
  ·unfold bk cU;have hble:X5 (0+nl.length) (bN 0)=false:=by
    cases hq:X5 (0+nl.length) (bN 0) with
    |false=>rfl
    |true=>
     have hq2:=Yx hq;have:bN 0=0:=rfl;omega
   have hx:eA 0=true:=rfl;have hel:c_ A.get n 0 none= .ok []:=rfl;simp only [Ys] at hlim;simp only [hst,hxt,hxd,cond_false,hz,R.aA,hy,hnew,hble,hi,hlim,cond_true,hel,hx]
  ·obtain⟨f1,f2,-⟩:=fin .row A rfl (fun _ _=>rfl) (.inl rfl) (fun l h=>by cases h);exact⟨f1,f2,.inr (X9 _),fun y _ hy=>aH (by omega)⟩
 ·have hel:c_ A.get n ls.length (some ⟨b,0,none⟩)= .ok ls.flatten:=ek h3 (db h4);obtain⟨cs,hb',hcs⟩:=h3;rcases h5 with rfl|⟨rfl,hk⟩
  ·have hx:eA (2*ls.length)=true:=gM _;have hcn:bN (2*ls.length)=ls.length:=eT _;have hble:X5 (ls.length+nl.length) (bN (2*ls.length))=false:=by
    rw [hcn];cases hq:X5 (ls.length+nl.length) ls.length with
    |false=>rfl
    |true=>have:=Yx hq;omega
   obtain⟨f1,f2,f3⟩:=fin .row A rfl (fun _ _=>rfl) (.inl rfl) h4;refine⟨_,A.alloc (.cells e .row 0 (T.bJ .e 0 (ls.flatten++nl.flatten))),A.next,?_,f1,f2,.inr (X9 _),fun y hy=>f3 y (fun e=>by cases hy e)⟩;unfold bk cU;simp only [hst,hxt,hxd,cond_false,hz,R.aA,hy,hnew,hble,hi,hlim,cond_true,hel,hx]
  ·have hble:X5 (ls.length+nl.length) (bN (fe ls.length n))=false:=by
    rw [cm hn1];cases hq:X5 (ls.length+nl.length) ls.length with
    |false=>rfl
    |true=>have:=Yx hq;omega
   have hx:eA (fe ls.length n)=false:=cH _ _;have he:Yc (iQ (fe ls.length n)) n=true:=by rw [dG hn1];simp
   have hall:nl.flatten.all aJ=true:=Ze.2 h1c;have hfz:(X5 0 (0+ls.length*n)&&(Yc e e&&Ye 0 9223372036854775808))=true:=by
    have h0:Ye 0 9223372036854775808=true:=by rw [Yl];omega
    rw [h0];simp
   obtain⟨f1,f2,f3⟩:=fin k (A.set b .dead) (aX _ _ _) (fun y hy=>by rw [aL,if_neg hy]) hk h4;refine⟨_,(A.set b .dead).alloc (.cells e k 0 (T.bJ .e 0 (ls.flatten++nl.flatten))),A.next,?_,f1,f2,.inr (X9 _),fun y hy=>f3 y (fun e=>by cases hy e)⟩;unfold bk cU;simp only [hst,hxt,hxd,cond_false,hz,R.aA,hy,hnew,hble,hi,hlim,cond_true,hel,hx,he,hall,qau,hb',hfz];rcases hk with rfl|rfl<;>rfl
variable {dst:Option Tmp}
theorem br {ih:Code→St→R (Ex×St)} {ty:TypeId} {pos:String} {after:Array Edge} {g:Option (Nat×Bool)} {s:St} {k:St→R (Ex×St)} (t:TypeId) (x y:Operand) (r:TypeId) (h:jw (tb.bp t)=false):dI tb ih {dst,op:=.binOp .eql t x y r,type:=ty,pos,after,guard:=g} s k=
 (ev s.t x).bind fun a=>(ev s.t y).bind fun b=>(u_ tb s.m.get .eql t x y a b).bind fun v=>bP s dst v k:=by
 rw [mC (hc:=by unfold cls;simp only [h,cond_false]) (hi:=rfl)];simp only [nf,R.ba]
theorem og {ih:Code→St→R (Ex×St)} {ty:TypeId} {pos:String} {after:Array Edge} {g:Option (Nat×Bool)} {s:St} {k:St→R (Ex×St)} (t:TypeId) (x y:Operand) (r:TypeId) (h:jw (tb.bp t)=false):dI tb ih {dst,op:=.binOp .neq t x y r,type:=ty,pos,after,guard:=g} s k=
 (ev s.t x).bind fun a=>(ev s.t y).bind fun b=>(u_ tb s.m.get .neq t x y a b).bind fun v=>bP s dst v k:=by
 rw [mC (hc:=by unfold cls;simp only [h,cond_false]) (hi:=rfl)];simp only [nf,R.ba]
def fieldsOf:Option TypeDesc→List (Bool×TypeId×Nat)
 |some (.struct fs)=>fs.toList.map fun f=>(f.name== "_",f.type,f.offset)
 |_=>[]
def LI:Option TypeDesc→Bool
 |some (.struct _)=>true
 |_=>false
def ib (tb:bI) (eq:TypeId→Value→Value→R Bool) (xs ys:List Value):List (Bool×TypeId×Nat)→R Bool
 | []=>.ok true
 |(n,t,o)::fs=>bif n then .no 85 else
  (je tb t xs o).bind fun a=>(je tb t ys o).bind fun b=>(eq t a b).bind fun
   |true=>ib tb eq xs ys fs
   |false=>.ok false
theorem yS (eq:TypeId→Value→Value→R Bool) (xs ys:List Value):∀fs:List Field,iE tb eq xs ys fs=ib tb eq xs ys (fs.map fun f=>(f.name== "_",f.type,f.offset))
 | []=>rfl
 |f::fs=>by
  have ih:=yS eq xs ys fs;show iE tb eq xs ys (f::fs)=ib tb eq xs ys ((f.name== "_",f.type,f.offset)::fs.map fun f=>(f.name== "_",f.type,f.offset));unfold iE ib;cases f.name== "_" with
  |true=>rfl
  |false=>
   simp only [cond_false];cases je tb f.type xs f.offset with
   |no _=>rfl
   |ok a=>
    cases je tb f.type ys f.offset with
    |no _=>rfl
    |ok b=>
     simp only [R.aA];cases eq f.type a b with
     |no _=>rfl
     |ok r=>cases r with
      |true=>exact ih
      |false=>rfl
theorem r_ {g:Nat→Option Ob} {t:TypeId} {sh:List (Bool×TypeId×Nat)} (h1:LI (tb.bp t)=true) (h2:fieldsOf (tb.bp t)=sh) (h3:tb.P.stoodInHeld t=false) (d:Nat) (xs ys:Array Value):
 eZ tb g (d+1) t (.agg xs) (.agg ys)=ib tb (eZ tb g d) xs.toList ys.toList sh:=by
 subst h2;unfold eZ;cases hu:tb.bp t with
 |none=>rw [hu] at h1;cases h1
 |some ds=>
  cases ds with
  |struct fs=>
   simp only [h3,cond_false];rw [yS];rfl
  |_=>rw [hu] at h1;cases h1
variable {k':IntKind}
theorem o_ {g:Nat→Option Ob} {t:TypeId} {k:IntKind} (h:tb.bp t=some (.int k)) (d:Nat) (a b:Int):eZ tb g (d+1) t (.int k' a) (.int k' b)= .ok (decide (a=b)):=by
 unfold eZ;have hk:dS k' k'=true:=by cases k'<;>rfl
 simp only [h,hk,cond_true,kz];rfl
variable {o:Nat} {v:Value}
theorem fW {t:TypeId} {cs:List Value} {d:TypeDesc} (h:tb.bp t=some d) (ha:cN d=false) (hv:cs[o]?=some v):je tb t cs o= .ok v:=by
 unfold je;simp only [h,ha,cond_false,hv]
end
section
variable {tb:bI} (ok:cg tb)
def fM:Value→Bool
 | .int _ _=>true
 | .string _=>true
 | .bool _=>true
 |_=>false
variable {ι:da} {v:Value}
theorem Nz (h:fM v=true):VR ι v v:=by
 cases v<;>first|exact .int _ _|exact .string _|exact .bool _|cases h
def AY:List Value→Nat→T Value→T Value
 | [],_,c=>c
 |v::l,i,c=>AY l (i+1) (bif fM v then c.set i v else c)
theorem z6:∀(l:List Value) (i:Nat) (c:T Value) (j:Nat),(AY l i c).get j=if i≤j∧j<i+l.length∧(l[j-i]?.map fM)=some true then l[j-i]? else c.get j
 | [],i,c,j=>by
  unfold AY;rw [if_neg (fun h=>by
   have:=h.2.1;simp only [Ys] at this;omega)]
 |v::l,i,c,j=>by
  unfold AY;rw [z6 l (i+1)];by_cases hj:j=i
  ·subst hj;rw [if_neg (by omega),Zg,X8];cases hp:fM v with
   |true=>rw [cond_true,T.af,if_pos rfl,if_pos ⟨X9 _,by simp,by simp [hp]⟩]
   |false=>rw [cond_false,if_neg (fun h=>by simp [hp] at h)]
  ·have hc:(bif fM v then c.set i v else c).get j=c.get j:=by
    cases fM v with
    |true=>rw [cond_true,T.af,if_neg hj]
    |false=>rfl
   rw [hc];by_cases hij:i+1≤j
   ·have e:(v::l)[j-i]?=l[j-(i+1)]?:=by
     rw [show j-i=(j-(i+1))+1 by omega,X7]
    rw [e];simp only [Yf];by_cases hx:j<i+1+l.length∧(l[j-(i+1)]?.map fM)=some true
    ·rw [if_pos ⟨hij,hx.1,hx.2⟩,if_pos ⟨by omega,by omega,hx.2⟩]
    ·rw [if_neg (fun h=>hx h.2),if_neg (fun h=>hx ⟨by omega,h.2.2⟩)]
   ·rw [if_neg (fun h=>hij h.1),if_neg (fun h=>by omega)]
variable {l:List Value} {j:Nat}
theorem Lz (h:l[j]?=some v) (hp:fM v=true):(AY l 0 .e).get j=some v:=by
 rw [z6,Zd,if_pos ⟨Yg _,by have:=(X_.1 h).1;omega,by rw [h];simp [hp]⟩,h]
def W3:Obj→Ob
 | .cells cs t fr=>.cells t .row (2*(9223372036854775808+cs.size+fr.2+1)) (AY cs.toList 0 .e)
 |_=>.dead
def VQ (w:World) (n:Nat):Mem:=⟨T.ofList (w.heap.toList.map W3),w.heap.size+n⟩
def rh (w:World) (ex:List (Option Loc)) (b:Nat):Option Loc:=
 if b<w.heap.size then match w.heap[b]? with
  |some (.cells cs _ _)=>some ⟨b,0,cs.size⟩
  |_=>none
 else(ex[b-w.heap.size]?).join
theorem NS (w:World) (n b:Nat):(VQ w n).get b=(w.heap[b]?).map W3:=by
 show(T.ofList (w.heap.toList.map W3)).get b=_;rw [T.gk,Yr,Yu]
variable {w:World} {b:Nat} {cs:Array Value}
theorem qG {ex:List (Option Loc)} {t:TypeId} {fr:Nat×Nat} (h:w.heap[b]?=some (.cells cs t fr)):rh w ex b=some ⟨b,0,cs.size⟩:=by
 unfold rh;rw [if_pos (Ym.1 h).1,h]
def Vy (w:World) (n:Nat) (a:Option Addr) (len cap:Nat) (vs:List Value):Prop:=
 (a=none∧len=0∧cap=0)∨
 ∃x,a=some x∧x.spot=none∧x.block<w.heap.size∧len≤cap∧cap<2^63∧vs.length=cap*n∧(∀(i:Nat) v,vs[i]?=some v→w.cell? (x.add i)=some v)∧∀v∈vs,fM v=true
def Wx (A:Mem) (n len:Nat) (vs:List Value) (x:Value):Prop:=
 (x= .slice none 0 0∧len=0)∨
 ∃q off,x= .slice (some ⟨q,off,none⟩) len (fe len n)∧q<A.next∧(len*n=0∨∃t fz c,A.get q=some (.cells t .row fz c)∧∀i,i<len*n→∃v,vs[i]?=some v∧c.get (off+i)=some v)
def WW (a:Option Addr) (cap n:Nat):Option Loc:=a.map fun x=>⟨x.block,x.off,x.off+cap*n⟩
variable {n cap:Nat} {vs:List Value}
theorem Be {a:Option Addr} {len:Nat} (hn:n<65536) (h:Vy w n a len cap vs) {ex:List (Option Loc)} (hj:ex[j]?=some (WW a cap n)):
 ∃x,VR (rh w ex) x (.slice a len cap)∧Wx (VQ w ex.length) n len vs x:=by
 have hjl:=(X_.1 hj).1;rcases h with⟨rfl,rfl,rfl⟩|⟨x,rfl,hsp,hblk,hlc,hcap,hlen,hcell,hpl⟩
 ·exact⟨.slice none 0 0,.slN,.inl ⟨rfl,rfl⟩⟩
 ·obtain⟨xb,xo,xs⟩:=x;simp only at hsp hblk;subst hsp;by_cases h0:len*n=0
  ·refine⟨.slice (some ⟨w.heap.size+j,0,none⟩) len (fe len n),?_,.inr ⟨_,_,rfl,by show w.heap.size+j<w.heap.size+ex.length;omega,.inl h0⟩⟩;have h1:bN (fe len n)=len:=cm hn;have h2:iQ (fe len n)=n:=dG hn;refine VR.slX (l:=⟨xb,xo,xo+cap*n⟩) (o':=xo) ?_ (cH _ _) (by rw [h1];exact hlc) (by rw [h2];exact X9 _) (fun _=>by simp) hcap (by rw [h1];exact X9 _);unfold rh;rw [if_neg (by omega),Nat.add_sub_cancel_left,hj];rfl
  ·have hpos:0<cap*n:=by
    have hn0:0<n:=Nat.pos_of_ne_zero fun e=>h0 (by rw [e,Nat.mul_zero])
    have hl0:0<len:=Nat.pos_of_ne_zero fun e=>h0 (by rw [e,qaE])
    exact Nat.mul_pos (by omega) hn0
   have hle:len*n≤cap*n:=qaq n hlc;have hv:∀i,i<cap*n→∃v,vs[i]?=some v:=fun i hi=>⟨_,X6 (show i<vs.length by omega)⟩
   have hc0:=hv 0 hpos;obtain⟨v0,hv0⟩:=hc0;have hw0:=hcell 0 v0 hv0;rw [bV] at hw0;unfold World.cell? at hw0;split at hw0
   ·rename_i cs t fr hw;have hw':w.heap[xb]?=some (.cells cs t fr):=hw;have hcs:∀i v,vs[i]?=some v→cs[xo+i]?=some v:=by
     intro i v hi;have h:=hcell i v hi;rw [bV] at h;unfold World.cell? at h;simp only [hw',Zl,Yj,if_false] at h;exact h
    have hsz:xo+cap*n≤cs.size:=by
     obtain⟨v,hv⟩:=hv (cap*n-1) (by omega);have:=(Ym.1 (hcs _ _ hv)).1;omega
    have h1:bN (fe len n)=len:=cm hn;have h2:iQ (fe len n)=n:=dG hn;refine⟨.slice (some ⟨xb,xo,none⟩) len (fe len n),VR.slX (l:=⟨xb,0,cs.size⟩) (o':=xo) (qG hw') (cH _ _) (by rw [h1];exact hlc) (by rw [h2];exact hsz) (fun _=>by simp) hcap (by rw [h1];exact X9 _),.inr ⟨xb,xo,rfl,by show xb<w.heap.size+ex.length;omega,.inr ⟨t,_,_,by rw [NS,hw'];rfl,fun i hi=>?_⟩⟩⟩;obtain⟨v,hvi⟩:=hv i (by omega);refine⟨v,hvi,Lz ?_ (hpl v (YF hvi))⟩;rw [Yu];exact hcs i v hvi
   ·cases hw0
end
section
variable {tb:bI} (ok:cg tb)
def yd (g:Nat→Value→Option Value):List Value→Nat→T Value→T Value
 | [],_,c=>c
 |v::l,i,c=>yd g l (i+1) (match g i v with|some u=>c.set i u|none=>c)
theorem tC (g:Nat→Value→Option Value):∀(l:List Value) (i:Nat) (c:T Value) (j:Nat),(yd g l i c).get j=if i≤j∧j<i+l.length∧(l[j-i]?.bind (g j)).isSome=true then l[j-i]?.bind (g j) else c.get j
 | [],i,c,j=>by
  unfold yd;rw [if_neg (fun h=>by
   have:=h.2.1;simp only [Ys] at this;omega)]
 |v::l,i,c,j=>by
  unfold yd;rw [tC g l (i+1)];by_cases hj:j=i
  ·subst hj;rw [if_neg (by omega),Zg,X8,ZZ];cases hp:g j v with
   |some u=>
    rw [if_pos ⟨X9 _,by simp,rfl⟩];show(c.set j u).get j=_;rw [T.af,if_pos rfl]
   |none=>rw [if_neg (fun h=>by simp at h)]
  ·have hc:(match g i v with|some u=>c.set i u|none=>c:T Value).get j=c.get j:=by
    cases g i v with
    |some u=>
     show(c.set i u).get j=_;rw [T.af,if_neg hj]
    |none=>rfl
   rw [hc];by_cases hij:i+1≤j
   ·have e:(v::l)[j-i]?=l[j-(i+1)]?:=by
     rw [show j-i=(j-(i+1))+1 by omega,X7]
    rw [e];simp only [Yf];by_cases hx:j<i+1+l.length∧(l[j-(i+1)]?.bind (g j)).isSome=true
    ·rw [if_pos ⟨hij,hx.1,hx.2⟩,if_pos ⟨by omega,by omega,hx.2⟩]
    ·rw [if_neg (fun h=>hx h.2),if_neg (fun h=>hx ⟨by omega,h.2.2⟩)]
   ·rw [if_neg (fun h=>hij h.1),if_neg (fun h=>by omega)]
variable {l:List Value} {j:Nat}
theorem FN {g:Nat→Value→Option Value} {u:Value} (h:(yd g l 0 .e).get j=some u):∃v,l[j]?=some v∧g j v=some u:=by
 rw [tC] at h;split at h
 ·rw [Zd,Option.bind_eq_some_iff] at h;exact h
 ·rw [T.ju] at h;cases h
variable {v:Value}
theorem zM {g:Nat→Value→Option Value} {u:Value} (h:l[j]?=some v) (hp:g j v=some u):(yd g l 0 .e).get j=some u:=by
 rw [tC,Zd,h,ZZ,hp,if_pos ⟨Yg _,by have:=(X_.1 h).1;omega,rfl⟩]
def S9 (g:Nat→Value→Option Value):Obj→Ob
 | .cells cs t fr=>.cells t .row (2*(9223372036854775808+cs.size+fr.2+1)) (yd g cs.toList 0 .e)
 |_=>.dead
def nV (w:World) (n:Nat) (N:Nat→Nat→Value→Option Value):Mem:=
 ⟨T.ofList ((Zi w.heap.size).map fun b=>match w.heap[b]? with|some o=>S9 (N b) o|none=>.dead),w.heap.size+n⟩
theorem lQ (w:World) (n:Nat) (N:Nat→Nat→Value→Option Value) (b:Nat):(nV w n N).get b=(w.heap[b]?).map (S9 (N b)):=by
 show(T.ofList _).get b=_;rw [T.gk,Yr];by_cases hb:b<w.heap.size
 ·rw [Z_ hb,YI,qaV hb];rfl
 ·rw [YR (by simpa using hb),Array.getElem?_eq_none (by omega)];rfl
variable {w:World} {b:Nat}
theorem pd {ex:List (Option Loc)} {N:Nat→Nat→Value→Option Value} {o:Ob} {l:Loc} (hg:(nV w ex.length N).get b=some o) (hl:rh w ex b=some l):∃cs t fr,w.heap[b]?=some (.cells cs t fr)∧o=S9 (N b) (.cells cs t fr)∧l=⟨b,0,cs.size⟩:=by
 rw [lQ] at hg;cases hb:w.heap[b]? with
 |none=>rw [hb] at hg;cases hg
 |some o'=>
  rw [hb] at hg;have hlt:=(Ym.1 hb).1;unfold rh at hl;rw [if_pos hlt,hb] at hl;cases o' with
  |cells cs t fr=>
   cases hl;exact⟨cs,t,fr,rfl,(YJ hg).symm,rfl⟩
  |_=>cases hl
def WG (w:World) (ex:List (Option Loc)) (N:Nat→Nat→Value→Option Value):Prop:=∀(b i:Nat) (v u:Value),N b i v=some u→VR (rh w ex) u v
theorem UF (w:World) (ex:List (Option Loc)) (hex:∀l,some l∈ex→l.blk<w.heap.size) {N:Nat→Nat→Value→Option Value} (hN:WG w ex N):Rel (rh w ex) (nV w ex.length N) w:=by
 refine⟨fun b hb=>?_,fun b o l hg _ hl=>?_,fun b l hl=>?_,fun b b' l l' hb hb' hl hl' he=>?_,fun b t k c hb=>?_⟩
 ·have hb':w.heap.size+ex.length≤b:=hb;rw [lQ,Array.getElem?_eq_none (by omega)];rfl
 ·obtain⟨cs,t,fr,h1,rfl,rfl⟩:=pd hg hl;refine⟨_,h1,cs,fr,rfl,rfl,fun i u hu=>?_,?_⟩
  ·obtain⟨v,h2,h3⟩:=FN hu;rw [Yu] at h2;exact⟨v,h2,hN _ _ _ _ h3⟩
  ·show fr.2≤0+(2*(9223372036854775808+cs.size+fr.2+1));omega
 ·unfold rh at hl;split at hl
  ·rename_i hlt;split at hl
   ·cases hl;exact hlt
   ·cases hl
  ·cases hx:ex[b-w.heap.size]? with
   |none=>rw [hx] at hl;cases hl
   |some ol=>
    rw [hx] at hl;cases ol with
    |none=>cases hl
    |some l0=>
     cases hl;exact hex _ (YF hx)
 ·obtain⟨o,hg,_⟩:=hb;obtain⟨o',hg',_⟩:=hb';obtain⟨_,_,_,_,_,rfl⟩:=pd hg hl;obtain⟨_,_,_,_,_,rfl⟩:=pd hg' hl';exact he
 ·rw [lQ] at hb;cases h:w.heap[b]? with
  |none=>rw [h] at hb;cases hb
  |some o=>
   rw [h] at hb;have h2:=YJ hb;cases o with
   |cells cs t' fr=>
    have h3:2*(9223372036854775808+cs.size+fr.2+1)=GB k:=by injection h2
    unfold GB at h3;omega
   |_=>cases h2
include ok in
theorem JM {w:World} (ex:List (Option Loc)) (hex:∀l,some l∈ex→l.blk<w.heap.size) {N:Nat→Nat→Value→Option Value} (hN:WG w ex N) {f:FuncId} {fn:Func} {c:Code} (hf:tb.fn.get f=some fn) (hb:fn.body=some c) {args:List Value} {args':Array Value} (ha:dH (rh w ex) args args'.toList)
 (hlaw:∃A',jf tb f args (nV w ex.length N) (.bool true) A'):Calls tb.P f args' w fun e w'=>e= .returned (.bool true)∧Leaves w w':=by
 intro cs;obtain⟨A',n,hc⟩:=hlaw;obtain⟨e,w',fr,⟨ι',v',he,hv,hl⟩,st⟩:=FC ok hc hf hb args' w (UF w ex hex hN) ha (fun b hb=>by
  have hb':w.heap.size+ex.length≤b:=hb;unfold rh;rw [if_neg (by omega),YR (by omega)];rfl) (fun b l hb hl=>by
  obtain⟨o,hg,_⟩:=hb;obtain⟨cs,t,fr,h1,rfl,rfl⟩:=pd hg hl;refine⟨?_,t,_,_,hg,by omega,?_⟩
  ·show b<w.heap.size+ex.length;have:=(Ym.1 h1).1;omega
  ·show cs.size<2*(9223372036854775808+cs.size+fr.2+1);omega) cs
 cases hv;exact⟨e,w',fr,⟨he,hl⟩,st⟩
def D6:Value:=.complex .f32 0 0
open Classical in
def Ap (w:World) (n:Nat) (v:Value):Option Value:=
 if fM v=true then some v else match v with
 | .slice none len cap=>if len=0∧cap=0 then some (.slice none 0 0) else none
 | .slice (some x) len cap=>
  if len=0∧cap=0 then some D6
  else if VR (rh w []) (.slice (some ⟨x.block,x.off,none⟩) len (fe len n)) (.slice (some x) len cap) then some (.slice (some ⟨x.block,x.off,none⟩) len (fe len n))
  else none
 |_=>none
variable {n:Nat}
theorem O7 {u:Value} (h:Ap w n v=some u):VR (rh w []) u v:=by
 unfold Ap at h;split at h
 ·rename_i hp;cases h;exact Nz hp
 ·split at h
  ·split at h
   ·rename_i hh;obtain⟨rfl,rfl⟩:=hh;cases h;exact .slN
   ·cases h
  ·split at h
   ·rename_i hh;obtain⟨rfl,rfl⟩:=hh;cases h;exact .emp _
   ·split at h
    ·rename_i hh;cases h;exact hh
    ·cases h
  ·cases h
theorem tk (h:fM v=true):Ap w n v=some v:=by
 unfold Ap;rw [if_pos h]
theorem H9:Ap w n (.slice none 0 0)=some (.slice none 0 0):=by
 unfold Ap;rw [if_neg (by decide)];simp
theorem Ij {x:Addr}:Ap w n (.slice (some x) 0 0)=some D6:=by
 unfold Ap;rw [if_neg (by simp [fM])];simp
def BB (w:World) (n:Nat) (v:Value) (len:Nat) (cs:List Value):Prop:=
 (v= .slice none 0 0∧len=0)∨(∃x,v= .slice (some x) 0 0∧len=0)∨
 ∃x cap,v= .slice (some x) len cap∧0<cap∧len≤cap∧cap<2^63∧(∀i,i<cap*n→∃u,w.cell? (x.add i)=some u)∧cs.length=len*n∧∀(i:Nat) (c:Value),cs[i]?=some c→w.cell? (x.add i)=some c
def Vx (A:Mem) (N:Nat→Nat→Value→Option Value) (n len:Nat) (cs:List Value) (x:Value):Prop:=
 (x= .slice none 0 0∧len=0)∨(x=D6∧len=0)∨
 ∃q off,x= .slice (some ⟨q,off,none⟩) len (fe len n)∧q<A.next∧(len*n=0∨∃t fz c,A.get q=some (.cells t .row fz c)∧∀(i:Nat) (v u:Value),i<len*n→cs[i]?=some v→N q (off+i) v=some u→c.get (off+i)=some u)
variable {i:Nat}
theorem wh {x:Addr} (hs:x.spot=none) (h:w.cell? (x.add i)=some v):∃cs t fr,w.heap[x.block]?=some (.cells cs t fr)∧cs[x.off+i]?=some v:=by
 obtain⟨xb,xo,xs⟩:=x;simp only at hs;subst hs;rw [bV] at h;unfold World.cell? at h;split at h
 ·rename_i cs t fr hw;have hw':w.heap[xb]?=some (.cells cs t fr):=hw;simp only [Zl,Yj,if_false] at h;exact⟨cs,t,fr,hw',h⟩
 ·cases h
theorem Av {x:Addr} (h:w.cell? (x.add 0)=some v):x.spot=none:=by
 have h0:x.add 0=x:=rfl;rw [h0] at h;unfold World.cell? at h;split at h
 ·split at h
  ·cases h
  ·rename_i hn;cases hs:x.spot with
   |none=>rfl
   |some y=>rw [hs] at hn;simp at hn
 ·cases h
theorem U6 {len:Nat} {cs:List Value} {N:Nat→Nat→Value→Option Value} (hn0:0<n) (hn:n<65536) (h:BB w n v len cs):
 ∃x,Ap w n v=some x∧Vx (nV w 0 N) N n len cs x:=by
 rcases h with⟨rfl,rfl⟩|⟨x,rfl,rfl⟩|⟨x,cap,rfl,hc0,hlc,hcap,hall,hcl,hcell⟩
 ·exact⟨_,H9,.inl ⟨rfl,rfl⟩⟩
 ·exact⟨_,Ij,.inr (.inl ⟨rfl,rfl⟩)⟩
 ·have hpos:0<cap*n:=Nat.mul_pos hc0 hn0;obtain⟨u0,hu0⟩:=hall 0 hpos;have hsp:=Av hu0;obtain⟨xb,xo,xs⟩:=x;simp only at hsp;subst hsp;have h1:bN (fe len n)=len:=cm hn;have h2:iQ (fe len n)=n:=dG hn;have hnp:¬fM (.slice (some ⟨xb,xo,none⟩) len cap)=true:=by simp [fM]
  obtain⟨u,hu⟩:=hall (cap*n-1) (by omega);obtain⟨cs',t,fr,hw,hu2⟩:=wh rfl hu;have hsz:=(Ym.1 hu2).1;have hblk:xb<w.heap.size:=(Ym.1 hw).1;have hreal:VR (rh w []) (.slice (some ⟨xb,xo,none⟩) len (fe len n)) (.slice (some ⟨xb,xo,none⟩) len cap):=by
   refine VR.slX (l:=⟨xb,0,cs'.size⟩) (o':=xo) (qG hw) (cH _ _) (by rw [h1];exact hlc) ?_ (fun _=>by simp) hcap (by rw [h1];exact X9 _);rw [h2];have e:xo+(cap*n-1)<cs'.size:=hsz;show xo+cap*n≤cs'.size;omega
  refine⟨.slice (some ⟨xb,xo,none⟩) len (fe len n),?_,.inr (.inr ⟨xb,xo,rfl,hblk,?_⟩)⟩
  ·unfold Ap;rw [if_neg hnp];simp only [if_neg (show¬(len=0∧cap=0) by omega),if_pos hreal]
  ·by_cases h0:len*n=0
   ·exact .inl h0
   ·right;refine⟨t,_,_,by rw [lQ,hw];rfl,fun i v u hi hv hu=>zM ?_ hu⟩;obtain⟨cs2,t2,fr2,hw2,hv2⟩:=wh rfl (hcell i v hv);rw [hw] at hw2;cases hw2;rw [Yu];exact hv2
end
section
variable {tb:bI} (ok:cg tb) {ι:da}
structure KZ where
 f:FuncId
 fn:Func
 c0:Code
 id1:Nat
 o1:Oper
 od:Oper
 c2:Code
 x:Tmp
 g:FuncId
 gf:Func
 id3:Nat
 orc:Oper
 t:Tmp
 c3:Code
structure L2 (tb:bI) (D:KZ):Prop where
 hf:tb.fn.get D.f=some D.fn
 hb:D.fn.body=some (.seq D.c0 (.seq (.region D.id1 #[D.o1,D.od] false) D.c2))
 hod:D.od.op= .defer {callee:=.value (.tmp D.x),args:= #[],argTypes:= #[]}
 go1:D.o1.guard=none
 god:D.od.guard=none
 dod:D.od.dst=none
 hg:tb.fn.get D.g=some D.gf
 hgb:D.gf.body=some (.seq (.region D.id3 #[D.orc] false) D.c3)
 horc:D.orc.op= .call {callee:=.builtin .recover,args:= #[],argTypes:= #[]}
 dorc:D.orc.dst=some D.t
 gorc:D.orc.guard=none
 ht:D.t<D.gf.ntmps
 hres:D.gf.results= #[]
 hng:(D.gf.name== "runtime.NumGoroutine")=false
def Pe (tb:bI) (D:KZ) (n:Nat) (cap:List Value) (rv:Value) (A:Mem):R Mem:=
 bif X5 cap.length D.gf.ntmps then
  (exec tb n D.c3 {t:=(T.bJ .e 0 cap).set D.t rv,n:=D.gf.ntmps,d:=[],m:=A,ro:=none}).bind fun(e,s)=>
  match e with
  | .i_ _=>.no 710
  | .exit _=>.no 711
  |_=>fc s.d s.m
 else .no 712
def gB (tb:bI) (D:KZ) (n:Nat):List Value→Mem→R (Value×Mem):=fun args A=>
 bif X5 args.length D.fn.ntmps then
  (exec tb n D.c0 {t:=T.bJ .e 0 args,n:=D.fn.ntmps,d:=[],m:=A,ro:=none}).bind fun(e0,s0)=>
  match e0 with
  | .nrm=>(dI tb (exec tb n) D.o1 s0 fun s=>.ok (.nrm,s)).bind fun(e1,s1)=>
   match e1,s1.d,s1.t.get D.x with
   | .nrm,[],some (.func (.func g') first cap)=>bif Yc g' D.g then
    (exec tb n D.c2 s1).bind fun(e2,s2)=>
    (match e2 with
     | .i_ v=>match s2.d with
      | []=>R.ok (v,s2.m)
      |_=>.no 701
     | .exit _=>.no 702
     |_=>(fc s2.d s2.m).bind fun A1=>.ok (.nilIface,A1)).bind fun(rv,A1)=>
    (Pe tb D n (first.toList++cap.toList) rv A1).bind fun A2=>
    (fj tb s2.t A2.get D.fn.results.toList).bind fun vs=>.ok (oneOf vs,A2)
    else .no 703
   |_,_,_=>.no 704
  |_=>.no 705
 else .no 706
variable {f:FuncId} {fn:Func}
theorem oD {P:Program} {c:Code} (hf:P.funcs[f]?=some fn) (hb:fn.body=some c) (args:Array Value) (kd:CallKind):
 Frame.enter P f args kd=(Frame.enter P f args kd).atR ⟨args++ZT (fn.ntmps-args.size) undef,[]⟩ [.code c]:=by
 simp [Frame.enter,Frame.atR,hf,hb]
section steps
variable {P:Program} {b:Frame} {a:Act} {k:List Item} {cs:List Frame} {w w':World} {ops:Array Oper} {i:Nat} {rest:List Nat} {o:Oper}
theorem y6 {d:Deferred} (hr0:b.roundOf=none) (ho:ops[i]?=some o) (hw:Region.wanted o (yielded ops a.tmps)=true) (hr:(execOp a.eval o).run P w= .ok (.defer d) w') (hd:o.dst=none):
 step P (lone (b.atR a (.inRegion ops (i::rest)::k)) cs w)= .next (lone (b.atR {a with defers:=d::a.defers} (.inRegion ops rest::k)) cs w'):=by
 have hg:=stepGR_op (P:=P) (b:=b) (k:=k) (cs:=cs) (w:=w) (rest:=rest) ho hw;rw [hr0,Oper.semAt_none] at hg;have hfin:({b.atR a (.inRegion ops (i::rest)::k) with defers:=d::a.defers}:Frame).finish undef=b.atR {a with defers:=d::a.defers} (.inRegion ops rest::k):=by
  have:=Frame.finish_atR b {a with defers:=d::a.defers} ops i rest k undef;rw [ho] at this;simp only [ZZ,hd,Act.put] at this;exact this
 refine step_lone_go ?_;rw [hg];simp [stepG.apply,hr];exact hfin
theorem pJ (hr0:b.roundOf=none) (ho:ops[i]?=some o) (hw:Region.wanted o (yielded ops a.tmps)=true) (hr:(execOp a.eval o).run P w= .ok .recover w') (ht:tryRecover (b.atR a (.inRegion ops (i::rest)::k)) cs=none):
 step P (lone (b.atR a (.inRegion ops (i::rest)::k)) cs w)= .next (lone (b.atR (a.put o.dst .nilIface) (.inRegion ops rest::k)) cs w'):=by
 have hg:=stepGR_op (P:=P) (b:=b) (k:=k) (cs:=cs) (w:=w) (rest:=rest) ho hw;rw [hr0,Oper.semAt_none] at hg;have hfin:∀v,(b.atR a (.inRegion ops (i::rest)::k)).finish v=b.atR (a.put o.dst v) (.inRegion ops rest::k):=by
  intro v;rw [Frame.finish_atR,ho];rfl
 have hro:(b.atR a (.inRegion ops (i::rest)::k)).roundOf=none:=hr0;refine step_lone_go ?_;rw [hg];simp [stepG.apply,hr,hro,ht,hfin]
variable {v:Value}
theorem nz {cs':List Frame} (hr0:b.roundOf=none) (ho:ops[i]?=some o) (hw:Region.wanted o (yielded ops a.tmps)=true) (hr:(execOp a.eval o).run P w= .ok .recover w') (ht:tryRecover (b.atR a (.inRegion ops (i::rest)::k)) cs=some (v,cs')):
 step P (lone (b.atR a (.inRegion ops (i::rest)::k)) cs w)= .next (lone (b.atR (a.put o.dst v) (.inRegion ops rest::k)) cs' w'):=by
 have hg:=stepGR_op (P:=P) (b:=b) (k:=k) (cs:=cs) (w:=w) (rest:=rest) ho hw;rw [hr0,Oper.semAt_none] at hg;have hfin:∀v,(b.atR a (.inRegion ops (i::rest)::k)).finish v=b.atR (a.put o.dst v) (.inRegion ops rest::k):=by
  intro v;rw [Frame.finish_atR,ho];rfl
 have hro:(b.atR a (.inRegion ops (i::rest)::k)).roundOf=none:=hr0;refine step_lone_go ?_;rw [hg];simp [stepG.apply,hr,hro,ht,hfin]
theorem rX {fr:Frame} {d:Deferred} {ds:List Deferred} {g:FuncId} {args:Array Value} (hd:fr.defers=d::ds) (hmode:fr.mode= .returning∨∃ch,fr.mode= .panicking ch)
 (ht:∃t c,d.target= .fn t c) (hr:(invoke d.target d.args).run P w= .ok (.enter g args) w'):
 step P (lone fr cs w)= .next (lone (Frame.enter P g args .deferred) ({fr with defers:=ds}::cs) w'):=by
 obtain⟨t,c,ht⟩:=ht;obtain⟨tg,X1⟩:=d;simp only at ht hr;subst ht;refine step_lone_go ?_;rcases hmode with hm|⟨ch,hm⟩
 ·simp [stepG,unwind,hm,hd,callDeferred,hr]
 ·simp [stepG,unwind,hm,hd,callDeferred,hr]
theorem rW {fr c:Frame} (hm:fr.mode= .returning) (hd:fr.defers=[]) (hk:fr.kind= .deferred) (hf:P.funcs[fr.fn]?=some fn) (hr:(results fn fr.tmps).run P w= .ok v w):
 (c.mode= .returning→step P (lone fr (c::cs) w)= .next (lone c cs w))∧
 (∀x,c.mode= .panicking [{v:=x,recovered:=true}]→step P (lone fr (c::cs) w)= .next (lone {c with mode:=.returning} cs w)):=by
 refine⟨fun hc=>step_lone_go ?_,fun x hc=>step_lone_go ?_⟩
 ·simp [stepG,unwind,hm,hd,hf,hr,doReturn,hk,hc]
 ·simp [stepG,unwind,hm,hd,hf,hr,doReturn,hk,hc]
end steps
theorem uN {P:Program} {b:Frame} {a:Act} {e:Ex} {k:List Item} {cs:List Frame} {w:World} (hb:b.roundOf=none) (he:e= .nrm∨e= .ret) (ha:Ir e [] k):
 ∃todo,Steps P (lone (b.atR a k) cs w) (lone {b.atR ⟨a.tmps,a.defers⟩ todo with mode:=.returning} cs w):=by
 rcases he with rfl|rfl
 ·cases (show k=[] from ha);exact⟨[],.one (stepR_end hb)⟩
 ·obtain⟨k2,rfl⟩:=ha;exact⟨_,.one (stepR_ret hb)⟩
variable {D:KZ} (hD:L2 tb D)
include ok hD in
theorem xV {n:Nat} {cap:List Value} {rv:Value} {A A2:Mem} (h:Pe tb D n cap rv A= .ok A2):
 A.next≤A2.next∧∀(ι:da) (w:World) (cap':Array Value) (rv':Value) (fr:Frame) (cs:List Frame),Rel ι A w→dH ι cap cap'.toList→VR ι rv rv'→eH ι A A2→
  (fr.mode= .returning∧rv'= .nilIface∨fr.mode= .panicking [{v:=rv',recovered:=false}])→
  ∃ι' w',Steps tb.P (lone (Frame.enter tb.P D.g cap' .deferred) (fr::cs) w) (lone {fr with mode:=.returning} cs w')∧Rel ι' A2 w'∧eC ι A w ι' A2 w':=by
 have hg':=ok.fn _ _ hD.hg;unfold Pe at h;cases hnb:X5 cap.length D.gf.ntmps with
 |false=>rw [hnb] at h;cases h
 |true=>
 rw [hnb,cond_true] at h;have hn:=Yx hnb;obtain⟨⟨e,s1⟩,h1,h2⟩:=R.aj h;have he:(e= .nrm∨e= .ret)∧fc s1.d s1.m= .ok A2:=by
  cases e with
  |i_ _=>cases h2
  |exit _=>cases h2
  |nrm=>exact⟨.inl rfl,h2⟩
  |ret=>exact⟨.inr rfl,h2⟩
 obtain⟨he,h4⟩:=he;have hnx:=jT h4;rcases jU ok n _ _ _ _ h1 with⟨v,rfl,_⟩|⟨hle,hc⟩
 ·rcases he with he|he<;>cases he
 refine⟨by rw [hnx];exact hle,fun ι w cap' rv' fr cs hr ha hrv hfree hmode=>?_⟩;have hfree':eH ι A s1.m:=fun b h1 h2=>hfree b h1 (by rw [hnx];exact h2)
 have hent:=oD hg' hD.hgb cap' .deferred;have hro:(Frame.enter tb.P D.g cap' .deferred).roundOf=none:=rfl;have hkd:(Frame.enter tb.P D.g cap' .deferred).kind= .deferred:=rfl;have hdf:(Frame.enter tb.P D.g cap' .deferred).defers=[]:=rfl;have hfn:(Frame.enter tb.P D.g cap' .deferred).fn=D.g:=rfl;generalize Frame.enter tb.P D.g cap' .deferred=b at hent hro hkd hdf hfn;let a0:Act:=⟨cap'++ZT (D.gf.ntmps-cap'.size) undef,[]⟩;have hops:(#[D.orc]:Array Oper)[0]?=some D.orc:=rfl
 have hwant:∀y,Region.wanted D.orc y=true:=fun y=>by unfold Region.wanted;rw [hD.gorc]
 have hrun:(execOp a0.eval D.orc).run tb.P w= .ok .recover w:=by
  simp only [execOp,hD.horc,resolve,Sem.run_bind,Sem.run_pure,Result.andThen_ok,invoke,builtin]
 have s0:Steps tb.P (lone b (fr::cs) w) (lone (b.atR a0 (.inRegion #[D.orc] [0]::[.code D.c3])) (fr::cs) w):=by
  rw [hent];refine .head stepR_seq (.head stepR_region ?_);exact .refl _ _
 obtain⟨fr1,s1',hfr1⟩:∃fr1,Steps tb.P (lone (b.atR a0 (.inRegion #[D.orc] [0]::[.code D.c3])) (fr::cs) w) (lone (b.atR (a0.put D.orc.dst rv') [.code D.c3]) (fr1::cs) w)∧
  (fr.mode= .returning∧fr1=fr∨fr1={fr with mode:=.panicking [{v:=rv',recovered:=true}]}):=by
  rcases hmode with⟨hm,rfl⟩|hm
  ·refine⟨fr,.head (pJ hro hops (hwant _) hrun ?_) (.one stepR_region_end),.inl ⟨hm,rfl⟩⟩;simp [tryRecover,Frame.atR,hkd,hm]
  ·refine⟨_,.head (nz hro hops (hwant _) hrun ?_) (.one stepR_region_end),.inr rfl⟩;simp [tryRecover,Frame.atR,hkd,hm]
 have hs0:SR ι {t:=(T.bJ .e 0 cap).set D.t rv,n:=D.gf.ntmps,d:=[],m:=A,ro:=none} b (a0.put D.orc.dst rv') w:=by
  refine⟨hr,?_,hro,?_⟩
  ·rw [hD.dorc];exact(TR.args ha hn).set hD.ht hrv
  ·rw [hD.dorc];exact hdf.symm
 obtain⟨ι1,w1,a1,k1,st1,ha1,hs1,hss1⟩:=hc ι b _ [] (fr1::cs) w hs0 hfree';obtain⟨todo,st2⟩:=uN (P:=tb.P) (a:=a1) (cs:=fr1::cs) (w:=w1) hro he ha1;obtain⟨w2,C3,hrel2,hst2⟩:=my tb.P (b:=b) (t:=a1.tmps) (todo:=todo) (cs:=fr1::cs) h4 hs1.dr hs1.rel;obtain⟨vr,hres,-⟩:=kV ok hrel2 hs1.tr (fn:=D.gf) (vs:=[]) (by rw [hD.hres];rfl);obtain⟨e1,e2⟩:=rW (P:=tb.P) (cs:=cs) (w:=w2) (fr:={b.atR ⟨a1.tmps,b.defers⟩ todo with mode:=.returning}) (c:=fr1) (fn:=D.gf) rfl hdf hkd (by show tb.P.funcs[b.fn]?=_;rw [hfn];exact hg') hres;refine⟨ι1,w2,(((s0.trans s1').trans st1).trans st2).trans (C3.trans ?_),hrel2,hss1.stp.trans hst2⟩;rcases hfr1 with⟨hm,rfl⟩|rfl
 ·have:({fr1 with mode:=.returning}:Frame)=fr1:=by rw [←hm]
  rw [this];exact .one (e1 hm)
 ·exact .one (e2 rv' rfl)
include ok hD in
theorem Dj (n:Nat):b8 tb.P D.f (gB tb D n):=by
 intro args A v A' h;have hf':=ok.fn _ _ hD.hf;have hg':=ok.fn _ _ hD.hg;have hih:=jU ok n;unfold gB at h;cases hnb:X5 args.length D.fn.ntmps with
 |false=>rw [hnb] at h;cases h
 |true=>
 rw [hnb,cond_true] at h;have hn:=Yx hnb;obtain⟨⟨e0,s0⟩,h0,h⟩:=R.aj h;cases e0 with
 |exit _=>cases h
 |ret=>cases h
 |i_ _=>cases h
 |nrm=>
 obtain⟨⟨e1,s1⟩,h1,h⟩:=R.aj h;simp only at h;split at h
 case h_2=>cases h
 rename_i g' first cap hd1 hx
 cases hgg:Yc g' D.g with
 |false=>rw [hgg] at h;cases h
 |true=>
 rw [hgg,cond_true] at h;obtain rfl:=Yn hgg;obtain⟨⟨e2,s2⟩,h2,h⟩:=R.aj h;obtain⟨⟨rv,A1⟩,h3,h⟩:=R.aj h;obtain⟨A2,h4,h⟩:=R.aj h;obtain⟨vs,h5,h⟩:=R.aj h;simp only [R.ok.injEq,Ya] at h;obtain⟨rfl,rfl⟩:=h;rcases hih _ _ _ _ h0 with⟨v,he,_⟩|⟨hle0,c0⟩
 ·cases he
 rcases tq ok (It ok hih) (ops:= #[D.o1,D.od]) (i:=0) h1 with⟨v,s,he,_⟩|⟨s,he,hle1,c1⟩
 ·cases he
 cases he;have hnA2:A1.next≤A2.next:=(xV ok hD h4).1
 have hrec:=(xV ok hD h4).2;have hle2:s1.m.next≤A1.next∧A1.next=s2.m.next:=by
  rcases hih _ _ _ _ h2 with⟨v,rfl,hp⟩|hc
  ·simp only at h3;split at h3
   ·simp only [R.ok.injEq,Ya] at h3;rw [←h3.2];exact⟨hp.1,rfl⟩
   ·cases h3
  ·cases e2 with
   |i_ v=>
    simp only at h3;split at h3
    ·simp only [R.ok.injEq,Ya] at h3;rw [←h3.2];exact⟨hc.1,rfl⟩
    ·cases h3
   |exit _=>cases h3
   |nrm=>
    obtain⟨A3,h6,h7⟩:=R.aj h3;simp only [R.ok.injEq,Ya] at h7;rw [←h7.2,jT h6];exact⟨hc.1,rfl⟩
   |ret=>
    obtain⟨A3,h6,h7⟩:=R.aj h3;simp only [R.ok.injEq,Ya] at h7;rw [←h7.2,jT h6];exact⟨hc.1,rfl⟩
 have hn0:A.next≤s0.m.next:=hle0
 refine⟨by omega,fun ι w args' hr ha hfree fr0 cs0=>?_⟩;have hent:=oD hf' hD.hb args' .normal;have hro:(Frame.enter tb.P D.f args' .normal).roundOf=none:=rfl;have hkd:(Frame.enter tb.P D.f args' .normal).kind= .normal:=rfl;have hdf:(Frame.enter tb.P D.f args' .normal).defers=[]:=rfl;have hfn:(Frame.enter tb.P D.f args' .normal).fn=D.f:=rfl;generalize Frame.enter tb.P D.f args' .normal=b at hent hro hkd hdf hfn;have hs:SR ι {t:=T.bJ .e 0 args,n:=D.fn.ntmps,d:=[],m:=A,ro:=none} b ⟨args'++ZT (D.fn.ntmps-args'.size) undef,[]⟩ w:=
  ⟨hr,TR.args ha hn,hro,hdf.symm⟩
 obtain⟨ι0,w0,a0,k0,st0,ha0,hs0,hss0⟩:=c0 ι b _ [.code (.seq (.region D.id1 #[D.o1,D.od] false) D.c2)] (fr0::cs0) w hs (fun x h1 h2=>hfree x h1 (by omega))
 cases (show k0=_ from ha0);have st0':Steps tb.P (lone b (fr0::cs0) w) (lone (b.atR a0 (.inRegion #[D.o1,D.od] [0,1]::[.code D.c2])) (fr0::cs0) w0):=by
  rw [hent];exact(Steps.head stepR_seq st0).trans (.head stepR_seq (.one stepR_region))
 have hw1:∀y,Region.wanted D.o1 y=true:=fun y=>by unfold Region.wanted;rw [hD.go1]
 have hw2:∀y,Region.wanted D.od y=true:=fun y=>by unfold Region.wanted;rw [hD.god]
 have hF0:eH ι0 s0.m s1.m:=eH.right (fun x h1 h2=>hfree x h1 (by have:A1.next=s2.m.next:=hle2.2;omega)) hss0.stp;obtain⟨ι1,w1,a1,st1,hs1,hss1⟩:=c1 ι0 b a0 [.code D.c2] (fr0::cs0) w0 [1] hs0 hF0 (hw1 _) rfl;obtain⟨v',hv1,hv2⟩:=hs1.tr.2 _ _ hx;cases hv2 with
 |func _ hfirst hcap=>
 rename_i first' cap' hny;have hev:a1.eval (.tmp D.x)= .func (.func D.g) first' cap':=by
  simp only [Act.eval,qbw,hv1,Za]
 obtain⟨dt,hdt1,hdt2⟩:∃dt:Deferred,(execOp a1.eval D.od).run tb.P w1= .ok (.defer dt) w1∧(∃t c,dt.target= .fn t c)∧∀u:World,(invoke dt.target dt.args).run tb.P u= .ok (.enter D.g (first'++cap')) u:=by
  refine⟨{target:=.fn (.func D.g) cap',args:=first'++ #[]},?_,⟨_,_,rfl⟩,fun u=>?_⟩
  ·have e0:(#[]:Array Operand).map a1.eval= #[]:=by simp
   simp only [execOp,hD.hod,resolve,hev,Deferred.ofValue,Sem.run_bind,Sem.run_pure,Result.andThen_ok,e0]
  ·simp only [invoke,callFunc,Sem.run_bind,run_program,Result.andThen_ok,hg',hD.hng,hD.hgb,Option.isNone_some,Yj,if_false,Sem.run_pure,Array.append_empty]
 have hd0:a1.defers=[]:=by
  have:=hs1.dr;rw [hd1,hdf] at this;exact this
 let a2:Act:={a1 with defers:=dt::a1.defers};let b2:Frame:={b with defers:=[dt]};have st2:Steps tb.P (lone (b.atR a1 (.inRegion #[D.o1,D.od] [1]::[.code D.c2])) (fr0::cs0) w1) (lone (b2.atR a2 [.code D.c2]) (fr0::cs0) w1):=
  .head (y6 hro rfl (hw2 _) hdt1 hD.dod) (.one stepR_region_end)
 have hsb:SR ι1 s1 b2 a2 w1:=⟨hs1.rel,hs1.tr,hs1.ro,by
  rw [hd1];show dt::a1.defers=[dt];rw [hd0]⟩
 have hStp1:eC ι A w ι1 s1.m w1:=hss0.stp.trans hss1.stp;have hF1:eH ι1 s1.m s2.m:=eH.right (fun x h1 h2=>hfree x h1 (by have:A1.next=s2.m.next:=hle2.2;omega)) hStp1;have hpre:=(st0'.trans st1).trans st2;have tail:∀(ι2:da) (w2:World) (a3:Act) (k3:List Item) (md:FrameMode) (rv':Value),Rel ι2 A1 w2→TR ι2 s2.n s2.t a3.tmps→eC ι1 s1.m w1 ι2 A1 w2→eI ι1 ι2→VR ι2 rv rv'→
  (md= .returning∧rv'= .nilIface∨md= .panicking [{v:=rv',recovered:=false}])→
  ∃ι' w' v',Steps tb.P (lone {b2.atR {a3 with defers:=[dt]} k3 with mode:=md} (fr0::cs0) w2) (lone (fr0.finish v') cs0 w')∧VR ι' (oneOf vs) v'∧Rel ι' A2 w'∧eC ι A w ι' A2 w':=by
  intro ι2 w2 a3 k3 md rv' hrel htr hst hle hrv hmd;have hStp2:eC ι A w ι2 A1 w2:=hStp1.trans hst;have hF2:eH ι2 A1 A2:=eH.right hfree hStp2;have hcaps:dH ι2 (first.toList++cap.toList) (first'++cap').toList:=by
   have h1:=dH.mono hle hfirst;have h2:=dH.mono hle hcap;rw [Array.toList_append];generalize first.toList=l1 at h1
   generalize first'.toList=l2 at h1;clear hfirst
   induction l1 generalizing l2 with
   |nil=>cases h1;exact h2
   |cons x l1 ih=>
    cases h1 with
    |cons hx hl=>exact .cons hx (ih _ hl)
  obtain⟨ι3,w3,C3,hrel3,hst3⟩:=hrec ι2 w2 (first'++cap') rv' {b2.atR {a3 with defers:=[]} k3 with mode:=md} (fr0::cs0) hrel hcaps hrv hF2 hmd;have stc:step tb.P (lone {b2.atR {a3 with defers:=[dt]} k3 with mode:=md} (fr0::cs0) w2)= .next (lone (Frame.enter tb.P D.g (first'++cap') .deferred) ({b2.atR {a3 with defers:=[]} k3 with mode:=md}::fr0::cs0) w2):=
   rX rfl (by
    rcases hmd with⟨rfl,_⟩|rfl
    ·exact .inl rfl
    ·exact .inr ⟨_,rfl⟩) hdt2.1 (hdt2.2 w2)
  have hle3:eI ι2 ι3:=hst3.le hF2;obtain⟨v',e1,hv⟩:=kV ok hrel3 (htr.mono hle3) (fn:=D.fn) h5;have hlv:Frame.leaving tb.P {b2.atR {a3 with defers:=[]} k3 with mode:=.returning} w3 (.returned v'):=⟨rfl,rfl,hkd,D.fn,by show tb.P.funcs[b.fn]?=_;rw [hfn];exact hf',e1⟩;exact⟨ι3,w3,v',.head stc (C3.trans (.one (step_leave_returned hlv))),hv,hrel3,hStp2.trans hst3⟩
 rcases hih _ _ _ _ h2 with⟨v,rfl,hle,hp⟩|⟨hle,hc⟩
 ·simp only at h3;split at h3
  case h_2=>cases h3
  rename_i hd2;simp only [R.ok.injEq,Ya] at h3;obtain⟨rfl,rfl⟩:=h3;obtain⟨ι2,w2,a3,k3,v3,C3,hv3,hs3,hss3⟩:=hp ι1 b2 a2 [] (fr0::cs0) w1 hsb hF1;have hd3:a3.defers=[dt]:=by
   have:=hs3.dr;rw [hd2] at this;exact this
  obtain⟨ι',w',v',st4,r1,r2,r3⟩:=tail ι2 w2 a3 k3 _ v3 hs3.rel hs3.tr hss3.stp (hss3.stp.le hF1) hv3 (.inr rfl);have ea:({a3 with defers:=[dt]}:Act)=a3:=by rw [←hd3]
  rw [ea] at st4;exact⟨ι',w',v',(hpre.trans C3).trans st4,r1,r2,r3⟩
 ·have he:(e2= .nrm∨e2= .ret)∧fc s2.d s2.m= .ok A1∧rv= .nilIface:=by
   cases e2 with
   |i_ v=>
    obtain⟨ι2,w2,a3,k3,_,ha,_⟩:=hc ι1 b2 a2 [] (fr0::cs0) w1 hsb hF1;exact ha.elim
   |exit _=>cases h3
   |nrm=>
    obtain⟨A3,h6,h7⟩:=R.aj h3;simp only [R.ok.injEq,Ya] at h7;exact⟨.inl rfl,by rw [h6,h7.2],h7.1.symm⟩
   |ret=>
    obtain⟨A3,h6,h7⟩:=R.aj h3;simp only [R.ok.injEq,Ya] at h7;exact⟨.inr rfl,by rw [h6,h7.2],h7.1.symm⟩
  obtain⟨he,h6,rfl⟩:=he;obtain⟨ι2,w2,a3,k3,C3,ha3,hs3,hss3⟩:=hc ι1 b2 a2 [] (fr0::cs0) w1 hsb hF1;obtain⟨todo,st4⟩:=uN (P:=tb.P) (b:=b2) (a:=a3) (cs:=fr0::cs0) (w:=w2) hro he ha3;obtain⟨w3,VO,hrel3,hst3⟩:=my tb.P (b:=b2) (t:=a3.tmps) (todo:=todo) (cs:=fr0::cs0) h6 hs3.dr hs3.rel;obtain⟨ι',w',v',st6,r1,r2,r3⟩:=tail ι2 w3 a3 todo _ .nilIface hrel3 hs3.tr (hss3.stp.trans hst3) (hss3.stp.le hF1) .nilIface (.inl ⟨rfl,rfl⟩);exact⟨ι',w',v',(((hpre.trans C3).trans st4).trans VO).trans st6,r1,r2,r3⟩
end
section
variable {tb:bI}
def UI (x:Value):R Value:=match x with
 | .pointer (some a)=>.ok (.pointer (some a))
 | .iface a b=>.ok (.iface a b)
 | .map a=>.ok (.map a)
 | .func (.func f) a b=>.ok (.func (.func f) a b)
 | .func (.yield f) a b=>.ok (.func (.yield f) a b)
 |_=>.no 213
theorem a8 (a:Addr):UI (.pointer (some a))= .ok (.pointer (some a)):=rfl
variable {dst:Option Tmp}
theorem aG {ih:Code→St→R (Ex×St)} {ty:TypeId} {pos:String} {after:Array Edge} {g:Option (Nat×Bool)} {s:St} {k:St→R (Ex×St)} (x:Operand):dI tb ih {dst,op:=.nilCheck x,type:=ty,pos,after,guard:=g} s k=
 (ev s.t x).bind fun a=>(UI a).bind fun v=>bP s dst v k:=by
 rw [iO (hc:=rfl) (hi:=rfl)];simp only [th,R.ba];rfl
theorem Ra {a b:Int} (h1:-9223372036854775808≤a+b) (h2:a+b≤9223372036854775807):aN .add .i64 a b= .ok (.int .i64 (a+b)):=by
 show R.ok (Value.int .i64 (dg .i64 (a+b)))=_;rw [eF,ku h1 h2]
theorem pn (m:Nat):∀(vs:List Value) (i:Nat) (c:T Value),(∀v∈vs,aJ v=true)→(∀j,j<vs.length→(∃y,c.get (i+j)=some y)∨i+j<m)→dW m 0 vs i c= .ok (c.bJ i vs)
 | [],_,_,_,_=>rfl
 |v::vs,i,c,h1,h2=>by
  unfold dW;have hb:(aJ v&&X5 0 i)=true:=by rw [h1 v (Yk ..)];simp
  have rest:dW m 0 vs (qaP i) (c.set i v)= .ok ((c.set i v).bJ (qaP i) vs):=pn m vs (i+1) (c.set i v) (fun w hw=>h1 w (Yi _ hw)) fun j hj=>by
   rw [T.af];by_cases e:i+1+j=i
   ·omega
   ·rw [if_neg e,show i+1+j=i+(j+1) by omega];exact h2 (j+1) (by simp;omega)
  rw [hb,cond_true];rcases h2 0 (by simp) with⟨y,hy⟩|hy
  ·rw [YU] at hy;rw [hy];exact rest
  ·rw [YU] at hy;have hlt:Ye i m=true:=by rw [Yl];exact hy
   cases hc:c.get i with
   |some _=>exact rest
   |none=>simp only [hlt,cond_true];exact rest
end
section
variable {tb:bI}
variable {A:Mem} {b o:Nat} {l vs:List Value}
theorem dD.put {e:TypeId} {k:Kd} (h:dD A e b k l) (h1:∀v∈vs,aJ v=true) (h2:o+vs.length≤l.length) (h0:vs≠ []):
 ∃A',cI A ⟨b,o,none⟩ vs= .ok A'∧A'.next=A.next∧(∀x,x≠b→A'.get x=A.get x)∧∀l':List Value,l'.length=l.length→(∀j,j<l.length→l'[j]?=if o≤j∧j<o+vs.length then vs[j-o]? else l[j]?)→dD A' e b k l':=by
 obtain⟨c,h3,h4⟩:=h;have hst:dW (yH k) 0 vs o c= .ok (c.bJ o vs):=pn _ vs o c h1 fun j hj=>.inl (by
  rw [h4 (o+j) (by omega),X6 (show o+j<l.length by omega)];exact⟨_,rfl⟩)
 refine⟨A.set b (.cells e k 0 (c.bJ o vs)),?_,aX _ _ _,fun x hx=>by rw [aL,if_neg hx],fun l' hl hj=>⟨_,by rw [aL,if_pos rfl],fun i hi=>?_⟩⟩
 ·cases vs with
  |nil=>exact absurd rfl h0
  |cons v vs=>
   unfold cI;simp only [h3,hst,R.aA]
 ·rw [T.en,hj i (by omega)];split
  ·rfl
  ·exact h4 i (by omega)
variable {n i:Nat} {ls:List (List Value)}
theorem sZ (h:∀x∈ls,x.length=n) (hl:l.length=n) (hi:i<ls.length) (j:Nat) (hj:j<ls.flatten.length):
 ((ls.set i l).flatten)[j]?=if i*n≤j∧j<i*n+n then l[j-i*n]? else ls.flatten[j]?:=by
 have h':∀x∈ls.set i l,x.length=n:=fun x hx=>by
  rcases Zw hx with hx|rfl
  ·exact h x hx
  ·exact hl
 rw [db h] at hj;have hn:0<n:=Nat.pos_of_ne_zero fun e=>by rw [e] at hj;omega
 have hq:j/n<ls.length:=by rw [qbu hn];exact hj
 have hm:j % n<n:=Y8 _ hn;have e:j=j/n*n+j % n:=by rw [Nat.mul_comm,Nat.div_add_mod]
 have hx:ls[j/n]?=some ls[j/n]:=X6 hq;by_cases hji:j/n=i
 ·have hx':(ls.set i l)[j/n]?=some l:=by rw [hji,Zn,if_pos rfl,if_pos hi]
  rw [hji] at e;rw [if_pos ⟨by omega,by omega⟩];have:=eR h' (i:=i) (j:=j % n) (by rw [←hji];rw [hji] at hx'⊢;exact hx') hm;rw [←e] at this;rw [this];congr 1;omega
 ·have hx':(ls.set i l)[j/n]?=some ls[j/n]:=by rw [Zn,if_neg (fun h=>hji h.symm),hx]
  have g1:=eR h' hx' hm;have g2:=eR h hx hm;rw [←e] at g1 g2;rw [g1,g2,if_neg];rintro⟨h3,h4⟩;apply hji;have h5:i≤j/n:=(Nat.le_div_iff_mul_le hn).2 h3;have h6:j/n<i+1:=(qbu hn).2 (by rw [qaa,qaz];exact h4);omega
theorem az.store {e t:TypeId} {x:Value} (h:az A e n b ls x) (hs:aY tb t= .ok n) (hn:0<n) (hi:i<ls.length) (hl:l.length=n) (h1:∀v∈l,aJ v=true):
 ∃A',aW tb A t (.pointer (some ⟨b,i*n,none⟩)) (.agg ⟨l⟩)= .ok A'∧az A' e n b (ls.set i l) x∧A'.next=A.next∧∀y,y≠b→A'.get y=A.get y:=by
 rcases h with⟨rfl,rfl⟩|⟨k,c,rfl,h2,h3,h4,h5⟩
 ·simp at hi
 ·have hlen:i*n+l.length≤ls.flatten.length:=by
   rw [db h4,hl];have:=qaq n (show i+1≤ls.length from hi);rw [qaa,qaz] at this;omega
  have h4':∀x∈ls.set i l,x.length=n:=fun x hx=>by
   rcases Zw hx with hx|rfl
   ·exact h4 x hx
   ·exact hl
  obtain⟨A',g1,g2,g3,g4⟩:=h3.put h1 hlen (fun e=>by rw [e] at hl;simp at hl;omega);refine⟨A',?_,.inr ⟨k,c,by rw [YG],by omega,g4 _ (by rw [db h4',db h4,YG]) fun j hj=>by rw [sZ h4 hl hi j hj,hl],h4',by rw [YG];exact h5⟩,g2,g3⟩;unfold aW;have hc:(Value.agg ⟨l⟩).cells.toList=l:=rfl;simp only [hs,R.aA,hc,hl,qcf,cond_true];exact g1
variable {j:Nat} {v:Value}
theorem az.field {e t:TypeId} {x:Value} (h:az A e n b ls x) (hs:aY tb t= .ok 1) (hi:ls[i]?=some l) (hj:j<n) (hv:v.cells.toList=[v]) (h1:aJ v=true):
 ∃A',aW tb A t (.pointer (some ⟨b,i*n+j,none⟩)) v= .ok A'∧az A' e n b (ls.set i (l.set j v)) x∧A'.next=A.next∧∀y,y≠b→A'.get y=A.get y:=by
 have hil:i<ls.length:=(X_.1 hi).1;rcases h with⟨rfl,rfl⟩|⟨k,c,rfl,h2,h3,h4,h5⟩
 ·simp at hil
 ·have hl:l.length=n:=h4 l (YF hi);have hlen:=Jb h4 hil hj;have h4':∀x∈ls.set i (l.set j v),x.length=n:=fun x hx=>by
   rcases Zw hx with hx|rfl
   ·exact h4 x hx
   ·rw [YG];exact hl
  obtain⟨A',g1,g2,g3,g4⟩:=h3.put (o:=i*n+j) (vs:=[v]) (fun w hw=>by rw [Y7.1 hw];exact h1) (by rw [Y9];omega) (by simp);refine⟨A',?_,.inr ⟨k,c,by rw [YG],by omega,g4 _ (by rw [db h4',db h4,YG]) fun m hm=>?_,h4',by rw [YG];exact h5⟩,g2,g3⟩
  ·unfold aW;simp only [hs,R.aA,hv,Y9,qcf,cond_true];exact g1
  ·rw [sZ h4 (by rw [YG];exact hl) hil m hm,Y9];by_cases hin:i*n≤m∧m<i*n+n
   ·rw [if_pos hin,Zn];by_cases hmj:j=m-i*n
    ·rw [if_pos hmj,if_pos (by omega),if_pos ⟨by omega,by omega⟩];have:m-(i*n+j)=0:=by omega
     rw [this];rfl
    ·rw [if_neg hmj,if_neg (by omega)];have:=eR h4 hi (j:=m-i*n) (by omega);rw [show i*n+(m-i*n)=m by omega] at this;exact this.symm
   ·rw [if_neg hin,if_neg (by omega)]
end
theorem RG (t:T Value):oV t []= .ok []:=rfl
theorem RK (t:T Value) (x:Operand) (xs:List Operand):oV t (x::xs)=(ev t x).bind fun v=>(oV t xs).bind fun vs=>.ok (v::vs):=rfl
theorem RY (t:T Value):D_ t none= .ok none:=rfl
theorem Rw (t:T Value) (x:Operand):D_ t (some x)=(ev t x).bind fun v=>.ok (some v):=rfl
theorem RJ (t:T Value):Hc t []= .ok []:=rfl
theorem Rt (t:T Value) (i:Nat) (x:Operand) (xs:List (Nat×Operand)):Hc t ((i,x)::xs)=(ev t x).bind fun v=>(Hc t xs).bind fun vs=>.ok ((i,v)::vs):=rfl
theorem Oj (s:St) (dst:Option Tmp) (k:St→R (Ex×St)) (v:Value) (A:Mem):OQ s dst k (.val v A)=bP {s with m:=A} dst v k:=rfl
theorem M5 (s:St) (dst:Option Tmp) (k:St→R (Ex×St)) (v:Value) (A:Mem):OQ s dst k (.i_ v A)= .ok (.i_ v,{s with m:=A}):=rfl
theorem Pb (tb:bI) (t:T Value) (g:Nat→Option Ob):fj tb t g []= .ok []:=rfl
theorem L_ (tb:bI) (t:T Value) (g:Nat→Option Ob) (i:Nat) (rs:List ResultVar):fj tb t g (.tmp i::rs)=(ev t (.tmp i)).bind fun v=>(fj tb t g rs).bind fun vs=>.ok (v::vs):=rfl
theorem Oy (tb:bI) (t:T Value) (g:Nat→Option Ob) (i:Nat) (ty:TypeId) (rs:List ResultVar):fj tb t g (.cell i ty::rs)=(ev t (.tmp i)).bind fun a=>(aq tb g ty a).bind fun v=>(fj tb t g rs).bind fun vs=>.ok (v::vs):=rfl
theorem H3:oneOf []= .tuple ⟨[]⟩:=rfl
theorem IT (v:Value):oneOf [v]=v:=rfl
theorem I9 (a b:Value) (l:List Value):oneOf (a::b::l)= .tuple ⟨a::b::l⟩:=rfl
theorem Ig (A:Mem):fc [] A= .ok A:=rfl
theorem Ja (b:Nat) (bs:List Nat) (A:Mem):fc (b::bs) A=match A.get b with|some .defd=>fc bs (A.set b .dead)|_=>.no 240:=rfl
theorem Iq (t:T Value) (a b:Operand):HK t (.bool true) a b=ev t a:=rfl
theorem ID (t:T Value) (a b:Operand):HK t (.bool false) a b=ev t b:=rfl
theorem zh (vs:Array Value) (i:Nat):xq (.tuple vs) i=match vs.toList[i]? with|some v=>.ok v|none=>.no 211:=rfl
theorem I':cM= .tuple ⟨[]⟩:=rfl
theorem Aq:type_of% (
 X4 @RG<|
 X4 @RK<|
 X4 @RY<|
 X4 @Rw<|
 X4 @RJ<|
 X4 @Rt<|
 X4 @Oj<|
 X4 @M5<|
 X4 @Pb<|
 X4 @L_<|
 X4 @Oy<|
 X4 @H3<|
 X4 @IT<|
 X4 @I9<|
 X4 @Ig<|
 X4 @Ja<|
 X4 @Iq<|
 X4 @ID<|
 X4 @zh<|
 X4 @cond_true.{1}<|
 X4 @cond_false.{1}<|
 X4 @T.ag<|
 X4 @T.ak<|
 X4 @oI<|
 X4 @ia<|
 X4 @mA<|
 X4 @ny<|
 X4 @lq<|
 X4 @tF<|
 X4 @ya<|
 X4 @tz<|
 X4 @mS<|
 X4 @oh<|
 X4 @qu<|
 X4 @yg<|
 X4 @qW<|
 X4 @CV<|
 X4 @Bi<|
 X4 @Bq<|
 X4 @FB<|
 X4 @tf<|
 X4 @kU<|
 X4 @kX<|
 X4 @tH<|
 X4 @te<|
 X4 @uo<|
 X4 @nQ<|
 X4 @yK<|
 X4 @ze<|
 X4 @uq<|
 X4 @B3<|
 X4 @jO<|
 X4 @kT<|
 X4 @t_<|
 X4 @wT<|
 X4 @B7<|
 X4 @qq<|
 X4 @nT<|
 X4 @yf<|
 X4 @fR<|
 X4 @dA<|
 X4 @Hp<|
 X4 @CO<|
 X4 @G_<|
 X4 @R.aA<|
 X4 @tw<|
 X4 @tW<|
 X4 @T.af<|
 X4 @T.ju<|
 X4 @xn<|
 X4 @tp<|
 X4 @qm<|
 X4 @qT<|
 X4 @Hd<|
 X4 @GG<|
 X4 @Bz<|
 X4 @qL<|
 X4 @q_<|
 X4 @ud<|
 X4 @uI<|
 X4 @ql<|
 X4 @mJ<|
 X4 @om<|
 X4 @qQ<|
 X4 @qA<|
 X4 @qD<|
 X4 @nP<|
 X4 @k_<|
 X4 @pk<|
 X4 @Gr<|
 X4 @wo<|
 X4 @yr<|
 X4 @Zk<|
 X4 @ZR<|
 X4 @if_true.{1}<|
 X4 @if_false.{1}<|
 X4 @ne_eq.{1}<|
 X4 @not_true_eq_false<|
 X4 @not_false_eq_true<|
 X4 @decide_true<|
 X4 @decide_false<|
 X4 @Yj<|
 X4 @Zo<|
 X4 @ZL<|
 X4 @Bs<|
 X4 @w_<|
 X4 @xU<|
 X4 @uc<|
 X4 @uG<|
 X4 @uD<|
 X4 @zd<|
 X4 @tL<|
 X4 @qt<|
 X4 @qC<|
 X4 @Za.{0}<|
 X4 @Ha<|
 X4 @ue<|
 X4 @qK<|
 X4 @uh<|
 X4 @ug<|
 X4 @qx<|
 X4 @qY<|
 X4 @qv<|
 X4 @xg<|
 X4 @sa<|
 X4 @CM<|
 X4 @B9<|
 X4 @A9<|
 X4 @dQ<|
 X4 @au<|
 X4 @E6<|
 X4 @k7<|
 X4 @pH<|
 X4 @bne_self_eq_false.{0}<|
 X4 @beq_self_eq_true.{0}<|
 X4 @eq_self.{1}<|
 X4 @Ao<|
 X4 @dx<|
 X4 @builtin_append<|
 X4 @uL<|
 X4 @cE<|
 X4 @aV<|
 X4 @pj<|
 X4 @aS<|
 X4 @AG<|
 X4 @wW<|
 X4 @uR<|
 X4 @eY<|
 X4 @bR<|
 X4 @bO<|
 X4 @bm<|
 X4 @bw<|
 X4 @Y6.{0}<|
 X4 @YT.{0}<|
 X4 @Y'.{0}<|
 @LO):=
 X4 @RG<|
 X4 @RK<|
 X4 @RY<|
 X4 @Rw<|
 X4 @RJ<|
 X4 @Rt<|
 X4 @Oj<|
 X4 @M5<|
 X4 @Pb<|
 X4 @L_<|
 X4 @Oy<|
 X4 @H3<|
 X4 @IT<|
 X4 @I9<|
 X4 @Ig<|
 X4 @Ja<|
 X4 @Iq<|
 X4 @ID<|
 X4 @zh<|
 X4 @cond_true.{1}<|
 X4 @cond_false.{1}<|
 X4 @T.ag<|
 X4 @T.ak<|
 X4 @oI<|
 X4 @ia<|
 X4 @mA<|
 X4 @ny<|
 X4 @lq<|
 X4 @tF<|
 X4 @ya<|
 X4 @tz<|
 X4 @mS<|
 X4 @oh<|
 X4 @qu<|
 X4 @yg<|
 X4 @qW<|
 X4 @CV<|
 X4 @Bi<|
 X4 @Bq<|
 X4 @FB<|
 X4 @tf<|
 X4 @kU<|
 X4 @kX<|
 X4 @tH<|
 X4 @te<|
 X4 @uo<|
 X4 @nQ<|
 X4 @yK<|
 X4 @ze<|
 X4 @uq<|
 X4 @B3<|
 X4 @jO<|
 X4 @kT<|
 X4 @t_<|
 X4 @wT<|
 X4 @B7<|
 X4 @qq<|
 X4 @nT<|
 X4 @yf<|
 X4 @fR<|
 X4 @dA<|
 X4 @Hp<|
 X4 @CO<|
 X4 @G_<|
 X4 @R.aA<|
 X4 @tw<|
 X4 @tW<|
 X4 @T.af<|
 X4 @T.ju<|
 X4 @xn<|
 X4 @tp<|
 X4 @qm<|
 X4 @qT<|
 X4 @Hd<|
 X4 @GG<|
 X4 @Bz<|
 X4 @qL<|
 X4 @q_<|
 X4 @ud<|
 X4 @uI<|
 X4 @ql<|
 X4 @mJ<|
 X4 @om<|
 X4 @qQ<|
 X4 @qA<|
 X4 @qD<|
 X4 @nP<|
 X4 @k_<|
 X4 @pk<|
 X4 @Gr<|
 X4 @wo<|
 X4 @yr<|
 X4 @Zk<|
 X4 @ZR<|
 X4 @if_true.{1}<|
 X4 @if_false.{1}<|
 X4 @ne_eq.{1}<|
 X4 @not_true_eq_false<|
 X4 @not_false_eq_true<|
 X4 @decide_true<|
 X4 @decide_false<|
 X4 @Yj<|
 X4 @Zo<|
 X4 @ZL<|
 X4 @Bs<|
 X4 @w_<|
 X4 @xU<|
 X4 @uc<|
 X4 @uG<|
 X4 @uD<|
 X4 @zd<|
 X4 @tL<|
 X4 @qt<|
 X4 @qC<|
 X4 @Za.{0}<|
 X4 @Ha<|
 X4 @ue<|
 X4 @qK<|
 X4 @uh<|
 X4 @ug<|
 X4 @qx<|
 X4 @qY<|
 X4 @qv<|
 X4 @xg<|
 X4 @sa<|
 X4 @CM<|
 X4 @B9<|
 X4 @A9<|
 X4 @dQ<|
 X4 @au<|
 X4 @E6<|
 X4 @k7<|
 X4 @pH<|
 X4 @bne_self_eq_false.{0}<|
 X4 @beq_self_eq_true.{0}<|
 X4 @eq_self.{1}<|
 X4 @Ao<|
 X4 @dx<|
 X4 @builtin_append<|
 X4 @uL<|
 X4 @cE<|
 X4 @aV<|
 X4 @pj<|
 X4 @aS<|
 X4 @AG<|
 X4 @wW<|
 X4 @uR<|
 X4 @eY<|
 X4 @bR<|
 X4 @bO<|
 X4 @bm<|
 X4 @bw<|
 X4 @Y6.{0}<|
 X4 @YT.{0}<|
 X4 @Y'.{0}<|
 @LO
theorem Fq:type_of% (
 X4 @Ff<|
 X4 @N6<|
 X4 @HM<|
 X4 @IS<|
 X4 @Om<|
 X4 @Fa<|
 X4 @IM<|
 X4 @En<|
 X4 @EV<|
 X4 @Jm<|
 X4 @Dp<|
 X4 @zO<|
 X4 @zX<|
 X4 @Ei<|
 X4 @DN<|
 X4 @IP<|
 X4 @C4<|
 X4 @Ej<|
 X4 @IA<|
 X4 @uV<|
 X4 @rM<|
 X4 @va<|
 X4 @rz<|
 X4 @vk<|
 X4 @yQ<|
 X4 @E9<|
 X4 @xF<|
 X4 @zT<|
 X4 @qbV.{0,0}<|
 X4 @qau<|
 X4 @ZK<|
 @Bool.and_self):=
 X4 @Ff<|
 X4 @N6<|
 X4 @HM<|
 X4 @IS<|
 X4 @Om<|
 X4 @Fa<|
 X4 @IM<|
 X4 @En<|
 X4 @EV<|
 X4 @Jm<|
 X4 @Dp<|
 X4 @zO<|
 X4 @zX<|
 X4 @Ei<|
 X4 @DN<|
 X4 @IP<|
 X4 @C4<|
 X4 @Ej<|
 X4 @IA<|
 X4 @uV<|
 X4 @rM<|
 X4 @va<|
 X4 @rz<|
 X4 @vk<|
 X4 @yQ<|
 X4 @E9<|
 X4 @xF<|
 X4 @zT<|
 X4 @qbV.{0,0}<|
 X4 @qau<|
 X4 @ZK<|
 @Bool.and_self
theorem Wq:type_of% (
 X4 @nX<|
 X4 @qk<|
 X4 @qs<|
 X4 @qJ<|
 X4 @T.af<|
 X4 @T.ju<|
 X4 @if_true.{1}<|
 X4 @if_false.{1}<|
 X4 @qN<|
 X4 @qz<|
 X4 @cond_true.{1}<|
 X4 @cond_false.{1}<|
 X4 @Zo<|
 X4 @ZL<|
 X4 @I'<|
 @List.toList_toArray.{0}):=
 X4 @nX<|
 X4 @qk<|
 X4 @qs<|
 X4 @qJ<|
 X4 @T.af<|
 X4 @T.ju<|
 X4 @if_true.{1}<|
 X4 @if_false.{1}<|
 X4 @qN<|
 X4 @qz<|
 X4 @cond_true.{1}<|
 X4 @cond_false.{1}<|
 X4 @Zo<|
 X4 @ZL<|
 X4 @I'<|
 @List.toList_toArray.{0}
abbrev pw (b o:Nat):Value:=.pointer (some ⟨b,o,none⟩)
abbrev JV:=List (List Value×Value)
def wV (a b:List Value):Bool:=Yc a.length b.length&&(a.zip b).all fun p=>cD 100 p.1 p.2
theorem Eo:∀{a b:List Value},wV a b=true→a=b
 | [],[],_=>rfl
 | [],_::_,h=>by cases h
 |_::_,[],h=>by cases h
 |x::a,y::b,h=>by
  unfold wV at h;rw [Yq] at h;obtain⟨h1,h2⟩:=h;rw [List.zip_cons_cons,List.all_cons,Yq] at h2;have h3:a.length=b.length:=by have:=Yn h1;simpa using this
  have h4:wV a b=true:=by unfold wV;rw [Yq];exact⟨by rw [qab];exact h3,h2.2⟩
  rw [jx 100 x y h2.1,Eo h4]
def qb:JV→List Value→Option Value
 | [],_=>none
 |p::l,args=>bif wV p.1 args then some p.2 else qb l args
theorem Ac:∀{l:JV} {args:List Value} {v:Value},qb l args=some v→(args,v)∈l
 | [],_,_,h=>by cases h
 |p::l,args,v,h=>by
  have h':(bif wV p.1 args then some p.2 else qb l args)=some v:=h;cases hs:wV p.1 args with
  |true=>
   rw [hs,cond_true] at h';cases h';rw [←Eo hs];exact Yk ..
  |false=>
   rw [hs,cond_false] at h';exact Yi _ (Ac h')
def isVal (r:R Fv) (v:Value):Bool:=
 match r with
 | .ok (.val u _)=>cD 100 u v
 |_=>false
def Ix (tb:bI) (n:Nat) (f:FuncId) (l:JV):Bool:=l.all fun p=>p.1.all (flat 9)&&flat 9 p.2&&isVal (call tb n f p.1 dX) p.2
variable {tb:bI} {f:FuncId} {fn:Func} {n:Nat}
theorem Pp (ok:cg tb) {c:Code} {l:JV} (hf:tb.fn.get f=some fn) (hb:fn.body=some c) (h:Ix tb n f l=true):cg (tb.pK f (aM (qb l))):=by
 refine bZ ok (dP ok hf hb fun args v hv=>?_);have h1:=Ze.1 h _ (Ac hv);simp only [Yq] at h1;obtain⟨⟨h2,h3⟩,h4⟩:=h1;refine⟨fun x hx=>Ze.1 h2 x hx,h3,n,?_⟩;unfold isVal at h4;split at h4
 ·rename_i u A e;rw [←jx _ _ _ h4];exact⟨A,e⟩
 ·cases h4
end Go.Am
namespace Go.Proofs.YtggndfefpbmaeaaGreatDoor.sto
open Go.Am
noncomputable def exts:T Nat:=((((T.e.set 156 4).set 211 5).set 223 1).set 224 3)
theorem SL:Rs 4 Tryz.f156:=⟨by kernel_rfl,by kernel_rfl,by kernel_rfl,by show Extern.find Tryz.f156=some Extern.MapsClone.clone;kernel_rfl⟩
theorem T0:Rs 5 Tryz.f211:=⟨by kernel_rfl,by kernel_rfl,by kernel_rfl,by show Extern.find Tryz.f211=(Extern.MathBitsCarry.rows[0]?).map (·.2);kernel_rfl⟩
theorem Tm:Rs 1 Tryz.f223:=⟨by kernel_rfl,by kernel_rfl,by kernel_rfl,by show Extern.find Tryz.f223=some Extern.AbiNoEscape.same;kernel_rfl⟩
theorem Un:Rs 3 Tryz.f224:=⟨by kernel_rfl,by kernel_rfl,by kernel_rfl,by show Extern.find Tryz.f224=some (Extern.BytealgMakeNoZero.makeNoZero Tryz.f224.params Tryz.f224.resultTypes);kernel_rfl⟩
theorem PD:∀f k fn,exts.get f=some k→qao.prog.funcs[f]?=some fn→Rs k fn:=by
 intro f k fn h hf;unfold exts at h;simp only [T.af,T.ju] at h;split at h
 ·rename_i e;subst e;cases h;cases YJ (hf.symm.trans Tryz.func224);exact Un
 split at h
 ·rename_i e;subst e;cases h;cases YJ (hf.symm.trans Tryz.func223);exact Tm
 split at h
 ·rename_i e;subst e;cases h;cases YJ (hf.symm.trans Tryz.func211);exact T0
 split at h
 ·rename_i e;subst e;cases h;cases YJ (hf.symm.trans Tryz.func156);exact SL
 cases h
noncomputable def bX:bI:=OK qao.prog exts
theorem eK:cg bX:=DZ qao _ PD
variable {k:Nat} {fn:Func}
theorem bB (h:YO.funcs[k]?=some fn):bX.fn.get k=some fn:=by
 show(T.ofList qao.prog.funcs.toList).get k=_;rw [T.gk,Yu];exact h
section
section
variable {tb:bI} {ih:Code→St→R (Ex×St)}
variable (dst:Option Tmp) (ty:TypeId) (pos:String) (after:Array Edge) (g:Option (Nat×Bool)) (s:St) (k:St→R (Ex×St))
theorem gG (t:TypeId) (r:Option Operand):dI tb ih {dst,op:=.makeMap t r,type:=ty,pos,after,guard:=g} s k=
 (D_ s.t r).bind fun r=>(fq tb t r).bind fun(ob,way)=>bP {s with m:=s.m.alloc ob} dst (way.at s.m.next) k:=by
 rw [tP _ _ _ _ _ _ _ rfl rfl];simp only [CZ,R.ba]
theorem dL (t:TypeId) (m x v:Operand):dI tb ih {dst,op:=.mapUpdate t m x v,type:=ty,pos,after,guard:=g} s k=
 (ev s.t m).bind fun m=>(ev s.t x).bind fun x=>(ev s.t v).bind fun v=>(cF tb s.m t m x v).bind fun A=>bP {s with m:=A} dst cM k:=by
 unfold dI;show((Ge tb s.t s.m (.mapUpdate t m x v)).bind fun(v,A)=>bP {s with m:=A} dst v k)=_;simp only [Ge,R.ba,R.aA]
theorem eO (t:TypeId) (m x:Operand) (b:Bool):dI tb ih {dst,op:=.lookup t m x b,type:=ty,pos,after,guard:=g} s k=
 (ev s.t m).bind fun m=>(ev s.t x).bind fun x=>(fx tb s.m.get t m x b).bind fun v=>bP s dst v k:=by
 rw [mC _ _ _ _ _ _ _ rfl rfl];simp only [nf,R.ba]
theorem yV (t:T Value) (g:Nat→Option Ob) (e:TypeId) (m x:Operand) (b:Bool):nf tb t g (.lookup e m x b)=(ev t m).bind fun m=>(ev t x).bind fun x=>fx tb g e m x b:=rfl
end
theorem z_ (b:Option Nat):(Value.map b).cells.toList=[.map b]:=rfl
theorem ec (b:Option Addr):(Value.pointer b).cells.toList=[.pointer b]:=rfl
theorem A6 (b:Nat):Way.mp.at b= .map (some b):=rfl
variable {tb:bI}
theorem Bf:bX.bp 3=some (.int .i64):=by kernel_rfl
theorem K9:bX.bp 4=some .bool:=by kernel_rfl
theorem k6:bX.bp 5=some (.int .u8):=by kernel_rfl
theorem nW:bX.bp 9=some .string:=by kernel_rfl
theorem gZ:bX.bp 103=some (.int .u64):=by kernel_rfl
def Kp (A A':Mem):Prop:=A.next≤A'.next∧∀z,z<A.next→A'.get z=A.get z
theorem Kp.refl (A:Mem):Kp A A:=⟨X9 _,fun _ _=>rfl⟩
variable {A B C:Mem}
theorem Kp.trans (h:Kp A B) (k:Kp B C):Kp A C:=⟨YC h.1 k.1,fun z hz=>by rw [k.2 z (by have:=h.1;omega),h.2 z hz]⟩
theorem Kp.alloc (A:Mem) (o:Ob):Kp A (A.alloc o):=⟨by rw [ae];omega,fun z hz=>aH (by omega)⟩
def VB (A:Mem) (e:TypeId) (b:Nat) (k:Kd) (l:List Value):Prop:=b<A.next∧dD A e b k l
variable {A':Mem} {b:Nat} {l:List Value}
theorem VB.kp {e:TypeId} {k:Kd} (h:VB A e b k l) (q:Kp A A'):VB A' e b k l:=⟨Yt h.1 q.1,h.2.same (q.2 b h.1)⟩
variable {o:Nat} {v:Value}
theorem VB.ld {e t:TypeId} {d:TypeDesc} {k:Kd} (h:VB A e b k l) (hv:l[o]?=some v) (hu:tb.bp t=some d) (ha:cN d=false):aq tb A.get t (pw b o)= .ok v:=bf hu ha h.2 hv
def Fin (tb:bI) (fn:Func) (v:Value) (A':Mem) (e:Ex) (s:St):Prop:=(e= .nrm∨e= .ret)∧s.d=[]∧s.m=A'∧(fj tb s.t A'.get fn.results.toList).bind (fun vs=>.ok (oneOf vs))= .ok v
variable {f:FuncId}
theorem aT {c:Code} {args:List Value} (hf:tb.fn.get f=some fn) (hb:fn.body=some c) (hn:args.length≤fn.ntmps) (hnm:(fn.name== "runtime.NumGoroutine")=false) (hk:tb.hk.get f=none)
 (h:W tb c ⟨T.bJ .e 0 args,fn.ntmps,[],A,none⟩ (Fin tb fn v A')):bL tb f args A v A':=by
 obtain⟨v',B,hg,rfl,rfl⟩:∃v' B,bL tb f args A v' B∧v'=v∧B=A':=by
  refine eE hf hb hn hnm hk (h.mono fun e s hs=>?_);obtain⟨h1,h2,h3,h4⟩:=hs;rw [h2,h3];cases hr:fj tb s.t A'.get fn.results.toList with
  |no _=>rw [hr] at h4;cases h4
  |ok vs=>
   rw [hr] at h4;exact⟨h1,A',vs,rfl,hr,by cases h4;rfl,rfl⟩
 exact hg
theorem IQ (a b:List UInt8):vo (strOf a) (strOf b)=some (decide (a=b)):=by
 show some (eJ a b)=_;rw [dv];congr 1;by_cases h:a=b<;>simp [h]
theorem HO (k:IntKind) (a b:Int):vo (.int k a) (.int k b)=some (decide (a=b)):=by
 show(bif dS k k then some (mL a b) else none)=_;rw [sw,show dS k k=true by cases k<;>rfl];rfl
def cQ:List (List UInt8)→Nat→List MapEntry
 | [],_=>[]
 |n::ns,o=>⟨strOf n,.int .i64 (o+1:Nat),o⟩::cQ ns (o+1)
theorem um (w:List UInt8):∀(ns:List (List UInt8)) (o j:Nat),findF (strOf w) (cQ ns o) j=some ((ns.findIdx? fun n=>decide (w=n)).map fun i=>(j+i,.int .i64 (o+i+1:Nat)))
 | [],o,j=>rfl
 |n::ns,o,j=>by
  unfold cQ findF;simp only [IQ,List.findIdx?_cons];by_cases h:w=n
  ·simp [h]
  ·simp only [h,decide_false,Yj,if_false];show findF _ _ (j+1)=_;rw [um w ns (o+1) (j+1)];cases ns.findIdx? fun n=>decide (w=n) with
   |none=>rfl
   |some i=>simp [qa4,Nat.add_left_comm];omega
def eW:List Nat→Nat→List MapEntry
 | [],_=>[]
 |p::ps,o=>⟨.int .i64 (o+1:Nat),.pointer (some ⟨p,0,none⟩),o⟩::eW ps (o+1)
theorem uF (q:Nat):∀(ps:List Nat) (o j:Nat),o≤q→findF (.int .i64 (q+1:Nat)) (eW ps o) j=some ((ps[q-o]?).map fun p=>(j+(q-o),.pointer (some ⟨p,0,none⟩)))
 | [],o,j,_=>by simp [eW,findF]
 |p::ps,o,j,h=>by
  unfold eW findF;simp only [HO];by_cases hq:q=o
  ·subst hq;simp
  ·rw [decide_eq_false (by omega)];show findF _ _ (j+1)=_;rw [uF q ps (o+1) (j+1) (by omega),show q-o=(q-(o+1))+1 by omega,X7];cases ps[q-(o+1)]? with
   |none=>rfl
   |some p=>simp only [YI];congr 2;simp;omega
end
end Go.Proofs.YtggndfefpbmaeaaGreatDoor.sto
namespace Go.Am
namespace T
variable {α:Type}
theorem Qu (x y:α):∀(f:Nat) (t:T α) (k:Nat),put x f (put y f t k) k=put x f t k:=by
 intro f
 induction f with
 |zero=>intro t k;rfl
 |succ f ih=>
  intro t k;cases t with
  |e=>
   rw [EA,EA];split
   ·rw [mg,if_pos (by assumption)]
   ·split
    ·rw [mg,if_neg (by assumption),if_pos (by assumption),ih]
    ·rw [mg,if_neg (by assumption),if_neg (by assumption),ih]
  |n l v r=>
   rw [mg,mg x f k l r v];split
   ·rw [mg,if_pos (by assumption)]
   ·split
    ·rw [mg,if_neg (by assumption),if_pos (by assumption),ih]
    ·rw [mg,if_neg (by assumption),if_neg (by assumption),ih]
theorem put_comm (x y:α):∀(f g:Nat) (t:T α) (k j:Nat),k≠j→put x f (put y g t j) k=put y g (put x f t k) j:=by
 intro f
 induction f with
 |zero=>intro g t k j _;rfl
 |succ f ih=>
  intro g t k j h;cases g with
  |zero=>rfl
  |succ g=>
   cases t with
   |e=>
    rw [EA,EA];by_cases k0:k=0<;>by_cases j0:j=0<;>by_cases k1:k % 2=1<;>by_cases j1:j % 2=1<;>
     first
     |(exfalso;omega)
     |(simp only [k0,j0,k1,j1,if_true,if_false,mg];first|done|rfl|(rw [ih];omega)|(congr 1;try (rw [ih];omega)))
   |n l v r=>
    rw [mg,mg];by_cases k0:k=0<;>by_cases j0:j=0<;>by_cases k1:k % 2=1<;>by_cases j1:j % 2=1<;>
     first
     |(exfalso;omega)
     |(simp only [k0,j0,k1,j1,if_true,if_false,mg];first|done|rfl|(rw [ih];omega)|(congr 1;try (rw [ih];omega)))
theorem set_set (t:T α) (k:Nat) (x y:α):(t.set k y).set k x=t.set k x:=Qu x y _ t k
variable {k j:Nat}
theorem set_comm (t:T α) (x y:α) (h:k≠j):(t.set j y).set k x=(t.set k x).set j y:=put_comm x y _ _ t k j h
theorem wX:∀(l:List α) (t:T α) (i k:Nat) (x:α),k<i→(t.bJ i l).set k x=(t.set k x).bJ i l
 | [],_,_,_,_,_=>rfl
 |y::l,t,i,k,x,h=>by
  rw [ag,ag,wX l _ (i+1) k x (by omega),set_comm _ _ _ (by omega)]
theorem Ae:∀(l l':List α) (t:T α) (i:Nat),l'.length=l.length→(t.bJ i l).bJ i l'=t.bJ i l'
 | [],[],_,_,_=>rfl
 |x::l,y::l',t,i,h=>by
  rw [ag,ag,ag,wX _ _ _ _ _ (Zu i),set_set];exact Ae l l' _ (i+1) (by simpa using h)
theorem Iy:∀(l:List α) (t:T α) (i o:Nat) (x:α),o<l.length→(t.bJ i l).set (i+o) x=t.bJ i (l.set o x)
 |y::l,t,i,0,x,_=>by
  rw [YU,ag,wX _ _ _ _ _ (Zu i),set_set];rfl
 |y::l,t,i,o+1,x,h=>by
  rw [ag,show i+(o+1)=(i+1)+o by omega,Iy l _ (i+1) o x (by simpa using h)];rfl
end T
theorem oF (A:Mem) (o o':Ob):(A.alloc o).set A.next o'=A.alloc o':=by
 show Mem.mk ((A.heap.set A.next o).set A.next o') _=Mem.mk _ _;rw [T.set_set];rfl
variable {tb:bI}
variable {A:Mem} {l:List Value}
theorem y7 {e t:TypeId} (hs:aY tb t= .ok l.length) (ht:(tb.bp t).map cN=some true):aq tb (A.alloc (aa e l)).get t (.pointer (some ⟨A.next,0,none⟩))= .ok (.agg ⟨l⟩):=by
 cases hu:tb.bp t with
 |none=>rw [hu] at ht;cases ht
 |some d=>rw [hu] at ht;exact aQ hu (by simpa using ht) hs (gQ A e l)
noncomputable def Ll (A:Mem):List (TypeId×List Value)→Mem
 | []=>A
 |x::l=>Ll (A.alloc (aa x.1 x.2)) l
variable {l':List Value} {v:Value}
theorem bn {t e:TypeId} (hs:aY tb t= .ok l'.length) (hc:v.cells.toList=l') (hl:l'.length=l.length) (h0:l≠ []) (h1:∀v∈l',aJ v=true):
 aW tb (A.alloc (aa e l)) t (.pointer (some ⟨A.next,0,none⟩)) v= .ok (A.alloc (aa e l')):=by
 have hg:(A.alloc (aa e l)).get A.next=some (.cells e (.var l.length) 0 (T.bJ .e 0 l)):=aD _ _
 unfold aW;simp only [hs,R.aA,hc];rw [show Yc l'.length l'.length=true by rw [qab],cond_true];unfold cI;have h0':l'≠ []:=fun h=>h0 (Yh.1 (by rw [←hl,h];rfl))
 have hst:=pn (yH (.var l.length)) l' 0 (T.bJ .e 0 l) h1 fun j hj=>.inl ⟨l[j]'(by omega),by rw [T.en,if_pos (by omega)];simp [X6 (show j<l.length by omega)]⟩
 cases l' with
 |nil=>exact absurd rfl h0'
 |cons y l'=>
  simp only [hg,hst,R.aA];rw [T.Ae _ _ _ _ hl,oF];unfold aa;rw [hl]
variable {o:Nat}
theorem df {t e:TypeId} (hs:aY tb t= .ok 1) (hc:v.cells.toList=[v]) (h1:aJ v=true) (ho:o<l.length):
 aW tb (A.alloc (aa e l)) t (pw A.next o) v= .ok (A.alloc (aa e (l.set o v))):=by
 have hg:(A.alloc (aa e l)).get A.next=some (.cells e (.var l.length) 0 (T.bJ .e 0 l)):=aD _ _
 have hst:=pn (yH (.var l.length)) [v] o (T.bJ .e 0 l) (by simpa using h1) fun j hj=>.inl (by
  have:j=0:=by simpa using hj
  subst this;exact⟨l[o],by rw [T.en,if_pos (by omega)];simp [X6 ho]⟩)
 unfold aW;simp only [hs,R.aA,hc];show cI _ _ [v]=_;unfold cI;simp only [hg,hst,R.aA];have hp:=T.Iy l .e 0 o v ho;rw [Yy] at hp;rw [T.ag,T.ak,hp,oF];unfold aa;rw [YG]
end Go.Am
namespace Go.Proofs.YtggndfefpbmaeaaGreatDoor.sto
open Go.Am
theorem uK (A:Mem) (x:TypeId×List Value) (l:List (TypeId×List Value)):Ll A (x::l)=Ll (A.alloc (aa x.1 x.2)) l:=rfl
theorem CG:∀(l:List (TypeId×List Value)) (A:Mem),Kp A (Ll A l)∧(Ll A l).next=A.next+l.length
 | [],A=>⟨Kp.refl A,rfl⟩
 |x::l,A=>by
  obtain⟨h1,h2⟩:=CG l (A.alloc (aa x.1 x.2));rw [uK];exact⟨(Kp.alloc A (aa x.1 x.2)).trans h1,by rw [h2,ae,Yf];omega⟩
theorem Ik:∀(l:List (TypeId×List Value)) (A:Mem) (i:Nat) (x:TypeId×List Value),l[i]?=some x→VB (Ll A l) x.1 (A.next+i) (.var x.2.length) x.2
 |y::l,A,0,x,h=>by
  cases h;rw [uK];exact VB.kp (A:=A.alloc (aa y.1 y.2)) ⟨by rw [ae];omega,gQ A y.1 y.2⟩ (CG l _).1
 |y::l,A,i+1,x,h=>by
  have:=Ik l (A.alloc (aa y.1 y.2)) i x h;rw [ae] at this;rw [uK,show A.next+(i+1)=A.next+1+i by omega];exact this
end Go.Proofs.YtggndfefpbmaeaaGreatDoor.sto
namespace Go.Proofs.YtggndfefpbmaeaaGreatDoor.sto
open Go.Am
variable {n:Nat}
theorem cL (h:n<18446744073709551616):iy .u64 (n:Int)=true:=by
 show Ye n (2^64)=true;rw [Yl];exact h
theorem aR (h:n<9223372036854775808):iy .i64 (n:Int)=true:=by
 show Ye n (2^63)=true;rw [Yl];exact h
theorem iV (h:n<256):iy .u8 (n:Int)=true:=by
 show Ye n 256=true;rw [Yl];exact h
theorem mo {k:IntKind} (h:iy k (n:Int)=true):dg k (n:Int)=(n:Int):=by unfold dg;rw [h];rfl
variable {tb:bI} {k':IntKind}
theorem bu {s d:TypeId} {k:IntKind} (hs:(tb.bp s).isSome=true) (hd:tb.bp d=some (.int k')) (h:iy k' (n:Int)=true):gj tb s d (.int k (n:Int))= .ok (.int k' (n:Int)):=by
 have e:gj tb s d (.int k (n:Int))= .ok (.int k' (dg k' (n:Int))):=by
  unfold gj;rw [hd];cases hq:tb.bp s with
  |none=>rw [hq] at hs;cases hs
  |some _=>rfl
 rw [e,mo h]
theorem Oh {s d:TypeId} {k:IntKind} (hs:(tb.bp s).isSome=true) (hd:tb.bp d=some (.int .u8)):gj tb s d (.int k (n:Int))= .ok (.int .u8 (n % 256:Nat)):=by
 have e:gj tb s d (.int k (n:Int))= .ok (.int .u8 (dg .u8 (n:Int))):=by
  unfold gj;rw [hd];cases hq:tb.bp s with
  |none=>rw [hq] at hs;cases hs
  |some _=>rfl
 rw [e,k_]
variable {b:Nat}
theorem a9 {k:IntKind} {a:Nat} (h:iy k ((a+b:Nat):Int)=true):aN .add k (a:Int) (b:Int)= .ok (.int k ((a+b:Nat):Int)):=by
 show R.ok (Value.int k (dg k ((a:Int)+(b:Int))))=_;rw [show(a:Int)+(b:Int)=((a+b:Nat):Int) by omega,mo h]
theorem bq {k:IntKind} {a:Nat} (hb:b≤a) (h:iy k ((a-b:Nat):Int)=true):aN .sub k (a:Int) (b:Int)= .ok (.int k ((a-b:Nat):Int)):=by
 show R.ok (Value.int k (dg k ((a:Int)-(b:Int))))=_;rw [show(a:Int)-(b:Int)=((a-b:Nat):Int) by omega,mo h]
theorem gq {k:IntKind} {a:Nat} (h:iy k ((a*b:Nat):Int)=true):aN .mul k (a:Int) (b:Int)= .ok (.int k ((a*b:Nat):Int)):=by
 show R.ok (Value.int k (dg k ((a:Int)*(b:Int))))=_;rw [show(a:Int)*(b:Int)=((a*b:Nat):Int) by simp,mo h]
theorem KQ {a:Nat} (ha:a<18446744073709551616) (hb:b<18446744073709551616):aN .or .u64 (a:Int) (b:Int)= .ok (.int .u64 (a|||b:Nat)):=by
 show(bif iy .u64 (a:Int)&&iy .u64 (b:Int) then R.ok (Value.int .u64 (a|||b:Nat)) else .no 11)=_;rw [cL ha,cL hb];rfl
theorem QJ {d:Option TypeDesc} {a:Nat} (h:b<64) (h2:a<<<b<18446744073709551616):hZ .shl d (.int .u64 a) (.int k' (b:Int))= .ok (.int .u64 (a<<<b:Nat)):=by
 have e:hZ .shl d (.int .u64 a) (.int k' (b:Int))=(bif Ye b 64 then R.ok (Value.int .u64 (dg .u64 ((a<<<b:Nat):Int))) else .ok (.int .u64 0)):=rfl;have hb:Ye b 64=true:=by rw [Yl];exact h
 rw [e,hb,cond_true,mo (cL h2)]
theorem Ip {ts:List TypeId} {a:Nat}:aO tb .min ts [.int .u64 a,.int .u64 b]= .ok (.int .u64 (min a b:Nat)):=by
 have e:aO tb .min ts [.int .u64 a,.int .u64 b]= .ok (.int .u64 (bif Ye b a then(b:Int) else(a:Int))):=by
  cases ts<;>rfl
 rw [e];cases h:Ye b a with
 |true=>
  have:b<a:=by simpa [Yl] using h
  rw [ZY (by omega)];rfl
 |false=>
  have:¬b<a:=by intro hx;rw [←Yl,h] at hx;cases hx
  rw [Y4 (by omega)];rfl
end Go.Proofs.YtggndfefpbmaeaaGreatDoor.sto
end
