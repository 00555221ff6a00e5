/- The abstract machine, the walk of the law and its plain laws, made small by a program; part 0: no conditions but those in each theorem. -/
import Derived.Calls
import Derived.Laws.Sem
set_option maxHeartbeats 16000000
set_option maxRecDepth 100000
set_option linter.unusedSimpArgs false
set_option linter.unusedVariables false
noncomputable section
open List renaming getElem?_eq_getElem→qan,length_cons→qaA,take_succ_eq_append_getElem→qaC,length_nil→qaT,replicate→qa7,getElem?_eq_none→qbc,drop_eq_getElem_cons→qbi,foldl_cons→qbu,all_eq_true→qby,drop_eq_nil_of_le→qdK
open Nat renaming le_refl→qao,ble→qaq,beq→qaw,blt→qax,lt_of_lt_of_le→qaD,blt_eq→qaH,eq_of_beq_eq_true→qaL,le_trans→qaV,lt_or_ge→qaZ,lt_of_le_of_lt→qbj,shiftRight_eq_div_pow→qbn,pow_le_pow_right→qbz,mod_lt→qbE,mod_eq_of_lt→qbL,lt_succ_self→qbP,mod→qcb,add_right_comm→qcd,add_mul→qcl,beq_eq→qcI,div→qcS,succ→qdi,ble_eq→qdm,not_lt_zero→qdD,xor_lt_two_pow→qdE,ne_of_beq_eq_false→qdL,pow_succ→qdW,shiftLeft_eq→qex,le_total→qeG
open Bool renaming false_eq_true→qaI,and_eq_true→qaO,eq_iff_iff→qbK,true_and→qcs,false_and→qdT,or_eq_true→qeC
open Array renaming getElem?_toList→qaU,ext'→qbT,length_toList→qb5,getElem?_setIfInBounds_ne→qdB,getD_eq_getD_getElem?→qdX
open Int renaming ofNat→qaW,ofNat_eq_natCast→qa2,natCast_nonneg→qcw
open Option.some renaming injEq→qaX,inj→qbo
open Option renaming map_some→qa5,isSome_none→qbI
open UInt8 renaming ofNat→qbD,lt_iff_toNat_lt→qde,toNat_inj→qdf
open ByteArray renaming toList→qev
namespace Go.Am
inductive T (α:Type) where
 |e:T α
 |n (l:T α) (v:Option α) (r:T α):T α
namespace T
variable {α:Type}
def get (t:T α):Nat→Option α:=
 T.rec (motive:=fun _=>Nat→Option α) (fun _=>none)
  (fun _ v _ gl gr k=>Bool.rec (Bool.rec (gr (Nat.pred (qcS k 2))) (gl (qcS k 2)) (qaw (qcb k 2) 1)) v (qaw k 0)) t
def put (x : α) (f : Nat) : T α → Nat → T α :=
  Nat.rec (motive := fun _ => T α → Nat → T α) (fun t _ => t)
    (fun _ ih t k => T.rec (motive := fun _ => T α)
       (Bool.rec (Bool.rec (n e none (ih e (Nat.pred (qcS k 2)))) (n (ih e (qcS k 2)) none e) (qaw (qcb k 2) 1)) (n e (some x) e) (qaw k 0))
       (fun l v r _ _ => Bool.rec (Bool.rec (n l v (ih r (Nat.pred (qcS k 2)))) (n (ih l (qcS k 2)) v r) (qaw (qcb k 2) 1)) (n l (some x) r) (qaw k 0)) t) f
theorem lj (k:Nat):(e:T α).get k=none:=rfl
theorem Jg (l r:T α) (v:Option α) (k:Nat):
 (n l v r).get k=if k=0 then v else if k % 2=1 then l.get (k/2) else r.get (k/2-1):=by
 show Bool.rec (motive:=fun _=>Option α) (Bool.rec (motive:=fun _=>Option α) (r.get (Nat.pred (qcS k 2))) (l.get (qcS k 2)) (qaw (qcb k 2) 1)) v (qaw k 0)=_;by_cases h:k=0
 ·subst h;rfl
 ·have h0:qaw k 0=false:=by cases k;exact absurd rfl h;rfl
  rw [h0,if_neg h];show Bool.rec (motive:=fun _=>Option α) _ _ (qaw (qcb k 2) 1)=_;by_cases h1:k % 2=1
  ·have e1:qaw (qcb k 2) 1=true:=by rw [qcI];exact h1
   rw [e1,if_pos h1];rfl
  ·have e1:qaw (qcb k 2) 1=false:=by
    cases hb:qaw (qcb k 2) 1 with
    |false=>rfl
    |true=>exact absurd (qaL hb) h1
   rw [e1,if_neg h1];rfl
theorem Ft (x:α) (f k:Nat):put x (f+1) (e:T α) k=
 if k=0 then n e (some x) e else if k % 2=1 then n (put x f e (k/2)) none e else n e none (put x f e (k/2-1)):=by
 show Bool.rec (motive:=fun _=>T α) (Bool.rec (motive:=fun _=>T α) (n e none (put x f e (Nat.pred (qcS k 2)))) (n (put x f e (qcS k 2)) none e) (qaw (qcb k 2) 1)) (n e (some x) e) (qaw k 0)=_;by_cases h:k=0
 ·subst h;rfl
 ·have h0:qaw k 0=false:=by cases k;exact absurd rfl h;rfl
  rw [h0,if_neg h];show Bool.rec (motive:=fun _=>T α) _ _ (qaw (qcb k 2) 1)=_;by_cases h1:k % 2=1
  ·have e1:qaw (qcb k 2) 1=true:=by rw [qcI];exact h1
   rw [e1,if_pos h1];rfl
  ·have e1:qaw (qcb k 2) 1=false:=by
    cases hb:qaw (qcb k 2) 1 with
    |false=>rfl
    |true=>exact absurd (qaL hb) h1
   rw [e1,if_neg h1];rfl
theorem mJ (x:α) (f k:Nat) (l r:T α) (v:Option α):put x (f+1) (n l v r) k=
 if k=0 then n l (some x) r else if k % 2=1 then n (put x f l (k/2)) v r else n l v (put x f r (k/2-1)):=by
 show Bool.rec (motive:=fun _=>T α) (Bool.rec (motive:=fun _=>T α) (n l v (put x f r (Nat.pred (qcS k 2)))) (n (put x f l (qcS k 2)) v r) (qaw (qcb k 2) 1)) (n l (some x) r) (qaw k 0)=_;by_cases h:k=0
 ·subst h;rfl
 ·have h0:qaw k 0=false:=by cases k;exact absurd rfl h;rfl
  rw [h0,if_neg h];show Bool.rec (motive:=fun _=>T α) _ _ (qaw (qcb k 2) 1)=_;by_cases h1:k % 2=1
  ·have e1:qaw (qcb k 2) 1=true:=by rw [qcI];exact h1
   rw [e1,if_pos h1];rfl
  ·have e1:qaw (qcb k 2) 1=false:=by
    cases hb:qaw (qcb k 2) 1 with
    |false=>rfl
    |true=>exact absurd (qaL hb) h1
   rw [e1,if_neg h1];rfl
theorem Jh (x:α):∀(f:Nat) (t:T α) (k j:Nat),k<2^f-1∨k<f→(put x f t k).get j=if j=k then some x else t.get j:=by
 intro f
 induction f with
 |zero=>intro t k j h;simp at h
 |succ f ih=>
  intro t k j h;have b1:k % 2=1→(k/2<2^f-1∨k/2<f):=by
   intro h1;rcases h with h|h
   ·left;rw [qdW] at h;omega
   ·right;omega
  have b2:k≠0→k % 2≠1→(k/2-1<2^f-1∨k/2-1<f):=by
   intro h0 h1;rcases h with h|h
   ·left;rw [qdW] at h;omega
   ·right;omega
  have aux:∀(l r:T α) (v:Option α),(t=n l v r∨(t=e∧l=e∧r=e∧v=none))→(put x (f+1) t k).get j=if j=k then some x else t.get j:=by
   intro l r v ht;have e1:put x (f+1) t k=if k=0 then n l (some x) r else if k % 2=1 then n (put x f l (k/2)) v r else n l v (put x f r (k/2-1)):=by
    rcases ht with rfl|⟨rfl,rfl,rfl,rfl⟩
    ·exact mJ ..
    ·exact Ft ..
   have e2:t.get j=if j=0 then v else if j % 2=1 then l.get (j/2) else r.get (j/2-1):=by
    rcases ht with rfl|⟨rfl,rfl,rfl,rfl⟩
    ·exact Jg ..
    ·simp [lj]
   rw [e1,e2];by_cases k0:k=0
   ·rw [if_pos k0,Jg];by_cases j0:j=0
    ·simp [j0,k0]
    ·rw [if_neg j0,if_neg (by omega:¬j=k),if_neg j0]
   ·rw [if_neg k0];by_cases k1:k % 2=1
    ·rw [if_pos k1,Jg,ih _ _ _ (b1 k1)];by_cases j0:j=0
     ·rw [if_pos j0,if_neg (by omega:¬j=k),if_pos j0]
     ·rw [if_neg j0,if_neg j0];by_cases j1:j % 2=1
      ·rw [if_pos j1,if_pos j1];by_cases hjk:j=k
       ·simp [hjk]
       ·rw [if_neg (by omega:¬j/2=k/2),if_neg hjk]
      ·rw [if_neg j1,if_neg j1,if_neg (by omega:¬j=k)]
    ·rw [if_neg k1,Jg,ih _ _ _ (b2 k0 k1)];by_cases j0:j=0
     ·rw [if_pos j0,if_neg (by omega:¬j=k),if_pos j0]
     ·rw [if_neg j0,if_neg j0];by_cases j1:j % 2=1
      ·rw [if_pos j1,if_pos j1,if_neg (by omega:¬j=k)]
      ·rw [if_neg j1,if_neg j1];by_cases hjk:j=k
       ·simp [hjk]
       ·rw [if_neg (by omega:¬j/2-1=k/2-1),if_neg hjk]
  cases t with
  |e=>exact aux e e none (.inr ⟨rfl,rfl,rfl,rfl⟩)
  |n l v r=>exact aux l r v (.inl rfl)
def set (t:T α) (k:Nat) (x:α):T α:=put x (bif qax k 18446744073709551615 then 64 else qdi k) t k
theorem aH (t:T α) (k j:Nat) (x:α):(t.set k x).get j=if j=k then some x else t.get j:=by
 unfold set;cases h:qax k 18446744073709551615 with
 |true=>
  have h':k<18446744073709551615:=by simpa [qaH] using h
  exact Jh x 64 t k j (.inl h')
 |false=>exact Jh x (k+1) t k j (.inr (qbP k))
def bK (t:T α) (i:Nat) (l:List α):T α:=
 List.rec (motive:=fun _=>Nat→T α→T α) (fun _ t=>t) (fun x _ ih i t=>ih (qdi i) (t.set i x)) l i t
theorem cU (t:T α) (i:Nat):t.bK i []=t:=rfl
theorem bI (t:T α) (i:Nat) (x:α) (l:List α):t.bK i (x::l)=(t.set i x).bK (i+1) l:=rfl
theorem dW (l:List α):∀(t:T α) (i j:Nat),(t.bK i l).get j=if i≤j∧j<i+l.length then l[j-i]? else t.get j:=by
 induction l with
 |nil=>intro t i j;rw [cU,if_neg];simp only [qaT];omega
 |cons x l ih=>
  intro t i j;rw [bI,ih,aH];simp only [qaA];by_cases h1:i+1≤j∧j<i+1+l.length
  ·rw [if_pos h1,if_pos (by omega)];obtain⟨d,rfl⟩:∃d,j=i+1+d:=⟨j-(i+1),by omega⟩;have e1:i+1+d-(i+1)=d:=by omega
   have e2:i+1+d-i=d+1:=by omega
   rw [e1,e2];rfl
  ·rw [if_neg h1];by_cases h2:j=i
   ·subst h2;rw [if_pos rfl,if_pos (by omega)];simp
   ·rw [if_neg h2,if_neg (by omega)]
def iu (t:T α) (n:Nat):Nat→Option (List α):=
 Nat.rec (motive:=fun _=>Nat→Option (List α)) (fun _=>some [])
  (fun _ ih i=>Option.rec none (fun x=>Option.rec none (fun l=>some (x::l)) (ih (qdi i))) (t.get i)) n
theorem K8 (t:T α) (i:Nat):t.iu 0 i=some []:=rfl
theorem AQ (t:T α) (n i:Nat):t.iu (n+1) i=match t.get i with|none=>none|some x=>match t.iu n (i+1) with|none=>none|some l=>some (x::l):=by
 show Option.rec (motive:=fun _=>Option (List α)) none (fun x=>Option.rec (motive:=fun _=>Option (List α)) none (fun l=>some (x::l)) (t.iu n (i+1))) (t.get i)=_;cases t.get i with
 |none=>rfl
 |some x=>cases t.iu n (i+1)<;>rfl
theorem mz (t:T α):∀(n i:Nat) (l:List α),t.iu n i=some l→l.length=n∧∀j,j<n→t.get (i+j)=l[j]?:=by
 intro n
 induction n with
 |zero=>intro i l h;rw [K8] at h;cases h;exact⟨rfl,fun j hj=>absurd hj (qdD _)⟩
 |succ n ih=>
  intro i l h;rw [AQ] at h;cases hx:t.get i with
  |none=>rw [hx] at h;cases h
  |some x=>
   rw [hx] at h;simp only at h;cases hl:t.iu n (i+1) with
   |none=>rw [hl] at h;cases h
   |some l'=>
    rw [hl] at h;simp only [qaX] at h;subst h;obtain⟨h1,h2⟩:=ih _ _ hl;refine⟨by simp [h1],fun j hj=>?_⟩;cases j with
    |zero=>simpa using hx
    |succ j=>have:=h2 j (by omega);rw [show i+(j+1)=i+1+j by omega,this];simp
end T
def T.ofList {α:Type} (l:List α):T α:=T.bK .e 0 l
theorem T.ir {α:Type} (l:List α) (i:Nat):(T.ofList l).get i=l[i]?:=by
 unfold T.ofList;rw [T.dW];by_cases hi:i<l.length
 ·rw [if_pos (by omega)];simp
 ·rw [if_neg (by omega),T.lj,qbc (by omega)]
inductive R (α:Type) where
 |ok (a:α)
 |no (why:Nat)
def R.bind {α β:Type} (x:R α) (f:α→R β):R β:=
 match x with
 | .ok a=>f a
 | .no w=>.no w
structure f_ where
 state:LoopState
 pending:Option Code
 fn:FuncId
 tmps:T Value
 n:Nat
 params:List Tmp
 assign:Code
 body:Code
 defers:Nat
inductive Kd where
 |var (n:Nat)
 |row
 |mark
 |room (n:Nat)
inductive Ob where
 |cells (t:TypeId) (x:Kd) (fz:Nat) (c:T Value)
 |map (es:List MapEntry) (clock:Nat)
 |sit (s:ByteArray) (pos:Nat)
 |mit (m c:Nat) (b:Option Nat)
 |loop (r:f_)
 |defd
 |dead
structure Mem where
 heap:T Ob
 next:Nat
def Mem.get (A:Mem) (b:Nat):Option Ob:=A.heap.get b
def Mem.set (A:Mem) (b:Nat) (o:Ob):Mem:={A with heap:=A.heap.set b o}
def Mem.alloc (A:Mem) (o:Ob):Mem:={heap:=A.heap.set A.next o,next:=qdi A.next}
def GB (k:Nat):Nat:=18446744073709551617+2*k
def Jk (g:Nat→Option Ob) (k:Nat):R Value:=
 match g k with
 |some (.cells _ .row fz _)=>bif qaw fz (GB k) then .ok (.pointer (some ⟨k,0,none⟩)) else .no 201
 |_=>.no 201
def gT:Nat→Value→Bool
 |0,_=>false
 |d+1,v=>
  match v with
  | .bool _| .int _ _| .string _| .pointer none| .slice none 0 0| .map none| .nilFunc| .nilIface=>true
  | .iface _ v=>gT d v
  | .agg l=>l.toList.all (gT d)
  | .tuple l=>l.toList.all (gT d)
  | .func (.func _) ⟨[]⟩ ⟨[]⟩=>true
  |_=>false
structure bO where
 P:Program
 ty:T TypeInfo
 fn:T Func
 ex:T Nat
 hk:T (List Value→Mem→R (Value×Mem))
def bO.ba (tb:bO) (t:TypeId):Option TypeDesc:=
 match tb.ty.get t with
 |some i=>match i.desc with
  | .named _ u=>match tb.ty.get u with
   |some j=>some j.desc
   |none=>none
  |d=>some d
 |none=>none
def iy (k:IntKind) (n:Int):Bool:=
 match k,n with
 | .i64,.ofNat m=>qax m 9223372036854775808
 | .i64,.negSucc m=>qax m 9223372036854775808
 | .u8,.ofNat m=>qax m 256
 | .u16,.ofNat m=>qax m 65536
 | .u32,.ofNat m=>qax m 4294967296
 | .u64,.ofNat m=>qax m 18446744073709551616
 | .i32,.ofNat m=>qax m 2147483648
 | .i32,.negSucc m=>qax m 2147483648
 |_,_=>false
def dm (k:IntKind) (n:Int):Int:=bif iy k n then n else k.wrap n
def qc (a b:Int):Bool:=
 match a,b with
 | .ofNat x,.ofNat y=>qax x y
 | .ofNat _,.negSucc _=>false
 | .negSucc _,.ofNat _=>true
 | .negSucc x,.negSucc y=>qax y x
def ou (a b:Int):Bool:=
 match a,b with
 | .ofNat x,.ofNat y=>qaw x y
 | .negSucc x,.negSucc y=>qaw x y
 |_,_=>false
def eD (a b:IntKind):Bool:=
 match a,b with
 | .i8,.i8| .i16,.i16| .i32,.i32| .i64,.i64| .u8,.u8| .u16,.u16| .u32,.u32| .u64,.u64=>true
 |_,_=>false
def Ef (op:BinOp) (k:IntKind) (x y:Int):R Value:=
 match op,x,y with
 | .and,.ofNat a,.ofNat b=>bif iy k x&&iy k y then .ok (.int k (.ofNat (Nat.land a b))) else .no 10
 | .or,.ofNat a,.ofNat b=>bif iy k x&&iy k y then .ok (.int k (.ofNat (Nat.lor a b))) else .no 11
 | .xor,.ofNat a,.ofNat b=>bif iy k x&&iy k y then .ok (.int k (.ofNat (Nat.xor a b))) else .no 12
 | .and,.ofNat a,.negSucc b=>bif iy k x&&iy k y then .ok (.int k (.ofNat (Nat.xor a (Nat.land a b)))) else .no 10
 |_,_,_=>.no 13
def y_ (op:BinOp) (k:IntKind) (x y:Int):R Value:=
 match op,x,y with
 | .shr,.ofNat a,.ofNat b=>.ok (.int k (.ofNat (Nat.shiftRight a (bif qax b k.bits then b else k.bits))))
 | .shl,.ofNat a,.ofNat b=>bif qax b k.bits then .ok (.int k (dm k (.ofNat (Nat.shiftLeft a b)))) else .ok (.int k 0)
 |_,_,_=>.no 14
def NF (op:BinOp) (k:IntKind) (x y:Int):R Value:=
 match op,x,y with
 | .quo,.ofNat a,.ofNat (b+1)=>.ok (.int k (dm k (.ofNat (qcS a (b+1)))))
 | .rem,.ofNat a,.ofNat (b+1)=>.ok (.int k (.ofNat (qcb a (b+1))))
 | .quo,x,y=>bif ou y 0 then .no 15 else .ok (.int k (k.wrap (x.tdiv y)))
 | .rem,x,y=>bif ou y 0 then .no 15 else .ok (.int k (x.tmod y))
 |_,_,_=>.no 16
def aX:List UInt8→List UInt8→Bool
 |_,[]=>false
 | [],_::_=>true
 |a::x,b::y=>qax a.toNat b.toNat||(qaw a.toNat b.toNat&&aX x y)
def eY:List UInt8→List UInt8→Bool
 | [],[]=>true
 |a::x,b::y=>qaw a.toNat b.toNat&&eY x y
 |_,_=>false
def aj (l:List UInt8):Value:=.string ⟨⟨l⟩⟩
def fb (op:BinOp) (x y:List UInt8):R Value:=
 match op with
 | .add=>bif qax (x.length+y.length) 4611686018427387904 then .ok (aj (x++y)) else .no 20
 | .eql=>.ok (.bool (eY x y))
 | .neq=>.ok (.bool (!eY x y))
 | .lss=>.ok (.bool (aX x y))
 | .leq=>.ok (.bool (aX x y||eY x y))
 | .gtr=>.ok (.bool (!(aX x y||eY x y)))
 | .geq=>.ok (.bool (!aX x y))
 |_=>.no 21
def aM (op:BinOp) (k:IntKind) (a b:Int):R Value:=
 match op with
 | .add=>.ok (.int k (dm k (a+b)))
 | .sub=>.ok (.int k (dm k (a-b)))
 | .mul=>.ok (.int k (dm k (a*b)))
 | .quo| .rem=>NF op k a b
 | .and| .or| .xor| .andNot=>Ef op k a b
 | .eql=>.ok (.bool (ou a b))
 | .neq=>.ok (.bool (!ou a b))
 | .lss=>.ok (.bool (qc a b))
 | .leq=>.ok (.bool (!qc b a))
 | .gtr=>.ok (.bool (qc b a))
 | .geq=>.ok (.bool (!qc a b))
 | .shl| .shr=>.no 22
def J' (n:Nat):Value:=.complex .f64 n 0
def HK (op:BinOp) (n:Nat) (y:Int):R Value:=
 match op,y with
 | .lss,.ofNat m=>bif qaq m n then .ok (.bool false) else .no 17
 | .geq,.ofNat m=>bif qaq m n then .ok (.bool true) else .no 17
 | .sub,.ofNat m=>bif qaq m n then .ok (J' (n-m)) else .no 17
 |_,_=>.no 18
def HL (op:BinOp) (y:Int) (n:Nat):R Value:=
 match op,y with
 | .gtr,.ofNat m=>bif qaq m n then .ok (.bool false) else .no 17
 | .leq,.ofNat m=>bif qaq m n then .ok (.bool true) else .no 17
 |_,_=>.no 18
def iM (op:BinOp) (d:Option TypeDesc) (x y:Value):R Value:=
 match x,y with
 | .complex .f64 n 0,.int .i64 y=>HK op n y
 | .int .i64 y,.complex .f64 n 0=>HL op y n
 | .int k a,.int k' b=>
  match op with
  | .shl| .shr=>y_ op k a b
  |_=>bif eD k k' then aM op k a b else .no 23
 | .string a,.string b=>fb op a.data.toList b.data.toList
 | .bool a,.bool b=>
  match op,d with
  | .eql,some .bool=>.ok (.bool (bif a then b else !b))
  | .neq,some .bool=>.ok (.bool (bif a then !b else b))
  |_,_=>.no 24
 |_,_=>.no 25
def WT (op:UnOp) (x:Value):R Value:=
 match op,x with
 | .neg,.int k n=>.ok (.int k (dm k (0-n)))
 | .xor,.int k (.ofNat n)=>
  bif k.signed then .ok (.int k (dm k (.negSucc n)))
  else bif iy k (.ofNat n) then .ok (.int k (.ofNat (2^k.bits-1-n))) else .no 26
 | .xor,.int k (.negSucc n)=>bif k.signed then .ok (.int k (dm k (.ofNat n))) else .no 26
 | .not,.bool b=>.ok (.bool (!b))
 |_,_=>.no 27
def dN (c:Nat):Bool:=qaw (qcb c 2) 0
def bJ (c:Nat):Nat:=bif dN c then qcS c 2 else qcS (qcS c 2) 65536
def gO (c:Nat):Nat:=qcb (qcS c 2) 65536
def fQ (cap es:Nat):Nat:=2*(cap*65536+es)+1
def gh (c l:Nat):Nat:=bif dN c then 2*(bJ c-l) else fQ (bJ c-l) (gO c)
def dV (c size:Nat):Bool:=bif dN c then true else qaw (gO c) size
def kU (v:Value):R Nat:=
 match v with
 | .int _ (.ofNat n)=>.ok n
 |_=>.no 30
def bound (v:Option Value) (d most:Nat):R Nat:=
 match v with
 |none=>.ok d
 |some v=>match kU v with
  | .ok n=>bif qaq n most then .ok n else .no 31
  | .no w=>.no w
def h_ (a:Addr) (n:Nat):Addr:=⟨a.block,a.off+n,none⟩
def aR (tb:bO) (t:TypeId):R Nat:=
 match tb.ty.get t with
 |some i=>.ok i.size
 |none=>.no 32
def c6 (tb:bO) (t:TypeId) (x:Value) (lo hi mx:Option Value):R Value:=
 match tb.ba t,x with
 |some .string,.string s=>
  match mx with
  |some _=>.no 33
  |none=>(bound hi s.data.toList.length s.data.toList.length).bind fun h=>(bound lo 0 h).bind fun l=>
   .ok (aj ((s.data.toList.take h).drop l))
 |some (.slice elem),.slice a len cap=>
  match mx with
  |none=>(bound hi len (bJ cap)).bind fun h=>(bound lo 0 h).bind fun l=>(aR tb elem).bind fun size=>
   match a with
   |none=>.ok (.slice none 0 0)
   |some a=>match a.spot with
    |some _=>.no 34
    |none=>bif dN cap&&qaw (bJ cap) l then .ok (.slice (some a) (h-l) 0)
     else bif dV cap size then .ok (.slice (some (h_ a (l*size))) (h-l) (gh cap l)) else .no 35
  |some mv=>(bound (some mv) 0 (bJ cap)).bind fun m=>(bound hi 0 m).bind fun h=>(bound lo 0 h).bind fun l=>(aR tb elem).bind fun size=>
   match a,hi with
   |_,none=>.no 36
   |none,_=>.ok (.slice none 0 0)
   |some a,some _=>match a.spot with
    |some _=>.no 37
    |none=>bif dN cap||(dV cap size&&qax 0 (bJ cap)) then
     bif qaw m l then .ok (.slice (some a) (h-l) 0) else .ok (.slice (some (h_ a (l*size))) (h-l) (2*(m-l)))
     else .no 37
 |some (.array n elem),.pointer (some a)=>
  match mx,a.spot with
  |none,none=>(bound hi n n).bind fun h=>(bound lo 0 h).bind fun l=>(aR tb elem).bind fun size=>
   bif qaw n l then .ok (.slice (some a) (h-l) 0) else .ok (.slice (some (h_ a (l*size))) (h-l) (2*(n-l)))
  |_,_=>.no 38
 |_,_=>.no 39
def av (tb:bO) (t:TypeId) (x:Value) (i:Nat):R Value:=
 match tb.ba t,x with
 |some (.struct fs),.pointer (some a)=>
  match a.spot,fs.toList[i]? with
  |none,some f=>(aR tb f.type).bind fun n=>bif qaw n 0 then .no 40 else .ok (.pointer (some (h_ a f.offset)))
  |_,_=>.no 41
 |_,_=>.no 42
def aU (tb:bO) (t:TypeId) (x i:Value):R Value:=
 match kU i with
 | .no w=>.no w
 | .ok i=>
  match tb.ba t,x with
  |some (.array len elem),.pointer (some a)=>
   match a.spot with
   |some _=>.no 43
   |none=>bif qax i len then(aR tb elem).bind fun n=>.ok (.pointer (some (h_ a (i*n)))) else .no 44
  |some (.slice elem),.slice (some a) len _=>
   match a.spot with
   |some _=>.no 45
   |none=>bif qax i len then(aR tb elem).bind fun n=>.ok (.pointer (some (h_ a (i*n)))) else .no 46
  |_,_=>.no 47
def bQ:TypeDesc→Bool
 | .struct _| .array _ _=>true
 |_=>false
def jr (tb:bO) (t:TypeId) (cs:List Value) (off:Nat):R Value:=
 match tb.ba t with
 |none=>.no 48
 |some d=>bif bQ d then(aR tb t).bind fun n=>.ok (.agg ⟨(cs.drop off).take n⟩)
  else match cs[off]? with
   |some v=>.ok v
   |none=>.no 49
def tE (tb:bO) (t:TypeId) (x:Value) (i:Nat):R Value:=
 match tb.ba t,x with
 |some (.struct fs),.agg cs=>match fs.toList[i]? with
  |some f=>jr tb f.type cs.toList f.offset
  |none=>.no 50
 |_,_=>.no 51
def nf (tb:bO) (t:TypeId) (x i:Value):R Value:=
 match kU i with
 | .no w=>.no w
 | .ok i=>
  match tb.ba t,x with
  |some (.array len elem),.agg cs=>bif qax i len then(aR tb elem).bind fun n=>jr tb elem cs.toList (i*n) else .no 52
  |some .string,.string s=>match s.data.toList[i]? with
   |some b=>.ok (.int .u8 (.ofNat b.toNat))
   |none=>.no 53
  |_,_=>.no 54
def o_ (cells:List Value) (off:Nat) (vs:List Value):List Value:=cells.take off++vs++cells.drop (off+vs.length)
def xE (place:Nat→Option (Nat×Nat)) (cells:List Value):List (Nat×Value)→Option (List Value)
 | []=>some cells
 |(i,v)::rest=>
  match place i with
  |none=>none
  |some (off,size)=>
   bif qaw v.cells.toList.length size&&qaq (off+size) cells.length then xE place (o_ cells off v.cells.toList) rest else none
def sb (tb:bO):List Field→R (List (Nat×Nat))
 | []=>.ok []
 |f::fs=>(aR tb f.type).bind fun n=>(sb tb fs).bind fun l=>.ok ((f.offset,n)::l)
def bS (tb:bO) (t:TypeId):R Value:=
 match tb.ty.get t with
 |some i=>match i.zero with
  |some v=>bif gT 3 v then .ok v else .no 55
  |none=>.no 55
 |none=>.no 56
def ct (tb:bO) (t:TypeId) (parts:List (Nat×Value)):R Value:=
 (bS tb t).bind fun zero=>
 match tb.ba t with
 |some (.struct fs)=>(sb tb fs.toList).bind fun places=>
  match xE (fun i=>places[i]?) zero.cells.toList parts with
  |some cells=>.ok (.agg ⟨cells⟩)
  |none=>.no 57
 |some (.array _ elem)=>(aR tb elem).bind fun n=>
  match xE (fun i=>some (i*n,n)) zero.cells.toList parts with
  |some cells=>.ok (.agg ⟨cells⟩)
  |none=>.no 58
 |_=>.no 59
def qW (zero:List Value):Nat→List Value
 |0=>[]
 |n+1=>zero++qW zero n
def cm (tb:bO) (t:TypeId):R (Nat×List Value):=
 (bS tb t).bind fun z=>(aR tb t).bind fun n=>bif qaw z.cells.toList.length n then .ok (n,z.cells.toList) else .no 60
def gi (tb:bO) (src dst:TypeId) (x:Value):R Value:=
 match tb.ba src,tb.ba dst,x with
 |some _,some (.int k),.int _ n=>.ok (.int k (dm k n))
 |some _,some .string,.string s=>.ok (.string s)
 |_,_,_=>.no 61
def ag (tb:bO) (g:Nat→Option Ob) (t:TypeId) (x:Value):R Value:=
 match x with
 | .pointer (some a)=>
  match a.spot,g a.block,tb.ba t with
  |none,some (.cells _ _ _ c),some d=>
   bif bQ d then(aR tb t).bind fun n=>match c.iu n a.off with
    |some l=>.ok (.agg ⟨l⟩)
    |none=>.no 70
   else match c.get a.off with
    |some v=>.ok v
    |none=>.no 71
  |_,_,_=>.no 72
 |_=>.no 73
def bytesOf:List Value→R (List UInt8)
 | []=>.ok []
 | .int .u8 (.ofNat n)::vs=>(bytesOf vs).bind fun l=>.ok (qbD n::l)
 |_=>.no 74
def c9 (g:Nat→Option Ob) (size n:Nat) (a:Option Addr):R (List Value):=
 match a with
 |none=>.ok []
 |some a=>bif qaw (n*size) 0 then .ok [] else match a.spot,g a.block with
  |none,some (.cells _ _ _ c)=>match c.iu (n*size) a.off with
   |some l=>.ok l
   |none=>.no 75
  |_,_=>.no 76
def iB (g:Nat→Option Ob) (x:Value):R Value:=
 match x with
 | .slice none _ _=>.ok (aj [])
 | .slice (some a) len _=>(c9 g 1 len (some a)).bind fun vs=>(bytesOf vs).bind fun l=>.ok (aj l)
 |_=>.no 77
def uC (a b:Value):Option Bool:=
 match a,b with
 | .int k x,.int k' y=>bif eD k k' then some (ou x y) else none
 | .string x,.string y=>some (eY x.data.toList y.data.toList)
 |_,_=>none
def findF (k:Value):List MapEntry→Nat→Option (Option (Nat×Value))
 | [],_=>some none
 |e::es,i=>
  match uC k e.key with
  |some true=>some (some (i,e.val))
  |some false=>findF k es (qdi i)
  |none=>none
def eQ (tb:bO) (t:TypeId) (k:Value):Bool:=
 match tb.ba t,k with
 |some (.int _),.int _ _=>true
 |some .string,.string _=>true
 |_,_=>false
def iU (g:Nat→Option Ob) (x:Value):R (List MapEntry):=
 match x with
 | .map none=>.ok []
 | .map (some r)=>match g r with
  |some (.map es _)=>.ok es
  |_=>.no 78
 |_=>.no 79
def fZ (tb:bO) (g:Nat→Option Ob) (t:TypeId) (x k:Value) (ok:Bool):R Value:=
 match tb.ba t with
 |some (.map key elem)=>
  bif eQ tb key k then(iU g x).bind fun es=>
   match findF k es 0 with
   |some (some (_,v))=>.ok (bif ok then .tuple ⟨[v,.bool true]⟩ else v)
   |some none=>(bS tb elem).bind fun z=>.ok (bif ok then .tuple ⟨[z,.bool false]⟩ else z)
   |none=>.no 80
  else .no 81
 |_=>.no 82
def ptrEq (g:Nat→Option Ob) (a b:Option Addr):R Bool:=
 match a,b with
 |none,none=>.ok true
 |none,some _=>.ok false
 |some _,none=>.ok false
 |some a,some b=>
  match a.spot,b.spot with
  |none,none=>
   bif qaw a.block b.block then .ok (qaw a.off b.off)
   else match g a.block,g b.block with
    |some (.cells _ (.var _) _ _),some (.cells _ (.var _) _ _)=>.ok false
    |_,_=>.no 83
  |_,_=>.no 84
def iX (tb:bO) (eq:TypeId→Value→Value→R Bool) (xs ys:List Value):List Field→R Bool
 | []=>.ok true
 |f::fs=>bif f.name== "_" then .no 85 else
  (jr tb f.type xs f.offset).bind fun a=>(jr tb f.type ys f.offset).bind fun b=>(eq f.type a b).bind fun
   |true=>iX tb eq xs ys fs
   |false=>.ok false
def rM (tb:bO) (eq:TypeId→Value→Value→R Bool) (elem:TypeId) (size:Nat) (xs ys:List Value):(n i:Nat)→R Bool
 |0,_=>.ok true
 |n+1,i=>
  (jr tb elem xs (i*size)).bind fun a=>(jr tb elem ys (i*size)).bind fun b=>(eq elem a b).bind fun
   |true=>rM tb eq elem size xs ys n (i+1)
   |false=>.ok false
def eC (tb:bO) (g:Nat→Option Ob):(d:Nat)→TypeId→Value→Value→R Bool
 |0,_,_,_=>.no 86
 |d+1,t,x,y=>
  match tb.ba t,x,y with
  |some .bool,.bool a,.bool b=>.ok (bif a then b else !b)
  |some (.int _),.int k a,.int k' b=>bif eD k k' then .ok (ou a b) else .no 87
  |some .string,.string a,.string b=>.ok (eY a.data.toList b.data.toList)
  |some (.pointer elem),.pointer a,.pointer b=>(aR tb elem).bind fun n=>match a,b with
   |some _,some _=>bif qaw n 0 then .no 88 else ptrEq g a b
   |_,_=>ptrEq g a b
  |some (.interface _),.nilIface,.nilIface=>.ok true
  |some (.interface _),.nilIface,.iface _ _=>.ok false
  |some (.interface _),.iface _ _,.nilIface=>.ok false
  |some (.interface _),.iface tx vx,.iface ty vy=>
   bif qaw tx ty then
    match tb.ty.get tx with
    |some i=>bif i.comparable then eC tb g d tx vx vy else .no 89
    |none=>.no 90
   else .ok false
  |some (.struct fs),.agg xs,.agg ys=>
   bif tb.P.stoodInHeld t then .no 91 else iX tb (eC tb g d) xs.toList ys.toList fs.toList
  |some (.array len elem),.agg xs,.agg ys=>(aR tb elem).bind fun n=>rM tb (eC tb g d) elem n xs.toList ys.toList len 0
  |some (.slice _),.slice none _ _,.slice b _ _=>.ok (Option.isNone b)
  |some (.slice _),.slice (some _) _ _,.slice none _ _=>.ok false
  |some (.map _ _),.map none,.map b=>.ok (Option.isNone b)
  |some (.map _ _),.map (some _),.map none=>.ok false
  |some (.func _ _ _),.nilFunc,.nilFunc=>.ok true
  |some (.func _ _ _),.nilFunc,.func _ _ _=>.ok false
  |some (.func _ _ _),.func _ _ _,.nilFunc=>.ok false
  |_,_,_=>.no 92
def oS:Operand→Bool
 | .const _=>true
 |_=>false
def uv (tb:bO) (t:TypeId) (x y:Operand) (a b:Value):Bool:=
 match a,b with
 | .nilIface,.nilIface=>oS x||oS y
 | .agg _,.agg _=>!tb.P.eqGuardType tb.P.depth t
 |_,_=>true
def vY (tb:bO) (g:Nat→Option Ob) (op:BinOp) (t:TypeId) (x y:Operand) (a b:Value):R Value:=
 bif uv tb t x y a b then
  match op with
  | .eql=>(eC tb g 100 t a b).bind fun r=>.ok (.bool r)
  | .neq=>(eC tb g 100 t a b).bind fun r=>.ok (.bool (!r))
  |_=>.no 93
 else .no 94
def OM (x y:Value):R Value:=
 match x,y with
 | .int k a,.int k' b=>bif eD k k' then .ok (.int k (bif qc a b then b else a)) else .no 95
 |_,_=>.no 96
def ON (x y:Value):R Value:=
 match x,y with
 | .int k a,.int k' b=>bif eD k k' then .ok (.int k (bif qc b a then b else a)) else .no 97
 |_,_=>.no 98
def AL (f:Value→Value→R Value):Value→List Value→R Value
 |x,[]=>.ok x
 |x,y::l=>(f x y).bind fun z=>AL f z l
def rA (tb:bO) (x:Value) (asserted:TypeId) (ok:Bool):R Value:=
 let fails:R Value:=bif ok then(bS tb asserted).bind fun z=>.ok (.tuple ⟨[z,.bool false]⟩) else .no 99
 let holds (v:Value):R Value:=.ok (bif ok then .tuple ⟨[v,.bool true]⟩ else v)
 match tb.ba asserted,x with
 |some (.interface _),.nilIface=>fails
 |some (.interface want),.iface t _=>
  match tb.ty.get t with
  |some i=>match Instr.missingMethod want i.methods with
   |none=>holds x
   |some _=>fails
  |none=>.no 100
 |some _,.nilIface=>fails
 |some _,.iface t v=>bif qaw t asserted then holds v else fails
 |none,_=>.no 101
 |some _,_=>.no 102
inductive Way where
 |ptr
 |mO (len cap:Nat)
 |mp
def Way.at (w:Way) (b:Nat):Value:=
 match w with
 | .ptr=>.pointer (some ⟨b,0,none⟩)
 | .mO len cap=>.slice (some ⟨b,0,none⟩) len cap
 | .mp=>.map (some b)
def aa (t:TypeId) (l:List Value):Ob:=.cells t (.var l.length) 0 (T.bK .e 0 l)
def a6 (tb:bO) (t:TypeId) (len:Nat) (parts:List (Nat×Value)):R (Ob×Way):=
 match tb.ba t with
 |some (.slice elem)=>(cm tb elem).bind fun(n,zero)=>
  bif qaq (len*n) 16777216 then
   match xE (fun i=>some (i*n,n)) (qW zero len) parts with
   |some cells=>.ok (aa elem cells,.mO len (2*len))
   |none=>.no 110
  else .no 111
 |_=>.no 112
def eE (tb:bO) (t:TypeId) (len cap:Value):R (Ob×Way):=
 match tb.ba t with
 |some (.slice elem)=>(kU len).bind fun l=>(kU cap).bind fun c=>(cm tb elem).bind fun(_,zero)=>
  match tb.ty.get elem with
  |some i=>bif qaq l c&&qaq c 1048576&&qaq i.bytes 1048576 then .ok (aa elem (qW zero c),.mO l (2*c)) else .no 113
  |none=>.no 114
 |_=>.no 115
def eo (b:UInt8):Value:=.int .u8 (.ofNat b.toNat)
def ku (tb:bO) (src dst:TypeId) (x:Value):R (Ob×Way):=
 match tb.ba src,tb.ba dst,x with
 |some .string,some (.slice e),.string s=>
  match tb.ba e with
  |some (.int .u8)=>bif qax s.data.toList.length 4294967296 then
   .ok (.cells e .mark 0 (T.bK .e 0 (s.data.toList.map eo)),.mO s.data.toList.length (fQ s.data.toList.length 1)) else .no 116
  |_=>.no 117
 |_,_,_=>.no 118
def gB (tb:bO) (t:TypeId) (reserve:Option Value):R (Ob×Way):=
 match reserve with
 |none=>.ok (.map [] 0,.mp)
 |some v=>match tb.ba t,v with
  |some (.map _ _),.int _ _=>.ok (.map [] 0,.mp)
  |_,_=>.no 119
def aJ (v:Value):Bool:=
 match v with
 | .agg _| .tuple _=>false
 |_=>true
def eJ (m fz:Nat):List Value→Nat→T Value→R (T Value)
 | [],_,c=>.ok c
 |v::vs,i,c=>bif aJ v&&qaq fz i then
  match c.get i with
  |some _=>eJ m fz vs (qdi i) (c.set i v)
  |none=>bif qax i m then eJ m fz vs (qdi i) (c.set i v) else .no 120
  else .no 121
def Bs:Kd→Nat
 | .room n=>n
 |_=>0
def dc (A:Mem) (a:Addr) (vs:List Value):R Mem:=
 match vs with
 | []=>.ok A
 |vs=>match a.spot,A.get a.block with
  |none,some (.cells t x fz c)=>(eJ (Bs x) fz vs a.off c).bind fun c'=>.ok (A.set a.block (.cells t x fz c'))
  |_,_=>.no 122
def aW (tb:bO) (A:Mem) (t:TypeId) (x v:Value):R Mem:=
 match x with
 | .pointer (some a)=>(aR tb t).bind fun n=>bif qaw v.cells.toList.length n then dc A a v.cells.toList else .no 123
 |_=>.no 124
def gP (x:Value):R Nat:=
 match x with
 | .slice _ n _=>.ok n
 | .string s=>.ok s.data.toList.length
 |_=>.no 125
def eN (g:Nat→Option Ob) (size n:Nat) (x:Value):R (List Value):=
 match x with
 | .slice a _ _=>c9 g size n a
 | .string s=>bif qaw size 1 then .ok ((s.data.toList.take n).map eo) else .no 126
 |_=>.no 126
def eP:TypeDesc→Bool
 | .int _=>true
 |_=>false
def cO (tb:bO) (A:Mem) (elem:TypeId) (base:Option Addr) (len cap size n:Nat) (new:List Value):R (Value×Mem):=
 bif qaq (len+n) (bJ cap) then
  match base with
  |none=>.ok (.slice none 0 0,A)
  |some a=>match a.spot with
   |some _=>.no 128
   |none=>(dc A (h_ a (len*size)) new).bind fun A'=>.ok (.slice (some a) (len+n) cap,A')
 else
  match tb.ty.get elem with
  |none=>.no 129
  |some i=>
   bif qaq (len+n) 16777216&&qaq i.bytes 65536&&qax 0 i.bytes&&qax 0 size&&qax size 65536 then
    (c9 A.get size len base).bind fun old=>
    let v:Value:=.slice (some ⟨A.next,0,none⟩) (len+n) (fQ (len+n) size)
    bif dN cap then .ok (v,A.alloc (.cells elem .row 0 (T.bK .e 0 (old++new))))
    else match base with
     |some a=>bif qaw (gO cap) size&&new.all aJ then
      match a.spot,A.get a.block with
      |none,some (.cells t x fz _)=>bif qaq fz (a.off+len*size)&&(qaw t elem&&qax fz 9223372036854775808) then
       match x with
       | .var _=>.no 130
       | .room _=>.no 130
       |x=>.ok (v,(A.set a.block .dead).alloc (.cells elem x (fz-a.off) (T.bK .e 0 (old++new))))
       else .no 130
      |_,_=>.no 131
      else .no 132
     |none=>.no 133
   else .no 134
def Cd (tb:bO) (A:Mem) (elem:TypeId) (base:Option Addr) (len cap:Nat) (x:Value):R (Value×Mem):=
 (cm tb elem).bind fun(size,zero)=>(kU x).bind fun n=>
 match tb.ty.get elem with
 |none=>.no 137
 |some i=>bif qaq n 16777216&&qaq i.bytes 65536 then cO tb A elem base len cap size n (qW zero n) else .no 127
def bj (tb:bO) (A:Mem) (st:TypeId) (xt:TypeId) (s x:Value):R (Value×Mem):=
 match tb.ba st,s,tb.ba xt with
 |some (.slice elem),.slice base len cap,some xd=>
  bif eP xd then Cd tb A elem base len cap x else
  (cm tb elem).bind fun(size,_)=>(gP x).bind fun n=>(eN A.get size n x).bind fun new=>cO tb A elem base len cap size n new
 |_,_,_=>.no 135
def I3 (tb:bO) (A:Mem) (dt:TypeId) (d s:Value):R (Value×Mem):=
 match tb.ba dt,d with
 |some (.slice elem),.slice base dl _=>(aR tb elem).bind fun size=>(gP s).bind fun sl=>
  let n:=bif qaq sl dl then sl else dl
  (eN A.get size n s).bind fun l=>
  match base with
  |none=>.ok (.int .i64 (.ofNat n),A)
  |some a=>(dc A a l).bind fun A'=>.ok (.int .i64 (.ofNat n),A')
 |_,_=>.no 136
def bL:Value:=.tuple ⟨[]⟩
def CE (tb:bO) (A:Mem) (t:TypeId) (x:Value):R (Value×Mem):=
 match tb.ba t,x with
 |some _,.map none=>.ok (bL,A)
 |some _,.map (some r)=>match A.get r with
  |some (.map _ clock)=>.ok (bL,A.set r (.map [] clock))
  |_=>.no 137
 |some _,.slice none _ _=>.ok (bL,A)
 |some (.slice elem),.slice (some a) n _=>bif qaw n 0 then .ok (bL,A) else
  (cm tb elem).bind fun(_,zero)=>(dc A a (qW zero n)).bind fun A'=>.ok (bL,A')
 |_,_=>.no 138
def zq (tb:bO) (A:Mem) (pt:TypeId) (x n:Value):R (Value×Mem):=
 (kU n).bind fun n=>
 match x,tb.ba pt with
 | .pointer (some a),some (.pointer e)=>
  match a.spot,A.get a.block,tb.ba e with
  |none,some (.cells t k fz c),some (.int .u8)=>(aR tb e).bind fun size=>
   bif qaw t e&&qaw size 1&&qax 0 n&&qaq n 16777216&&(qax fz 9223372036854775808&&qax (a.off+n) 9223372036854775808) then
    match c.iu n a.off with
    |some vs=>match k with
     | .mark=>.no 155
     |_=>(bytesOf vs).bind fun l=>.ok (aj l,A.set a.block (.cells t .row (bif qaq fz (a.off+n) then a.off+n else fz) c))
    |none=>.no 151
   else .no 152
  |_,_,_=>.no 153
 | .pointer none,_=>bif qaw n 0 then .ok (aj [],A) else .no 154
 |_,_=>.no 154
def sA (es:List MapEntry) (i:Nat) (k v:Value):List MapEntry:=
 match es,i with
 | [],_=>[]
 |e::es,0=>{e with key:=k,val:=v}::es
 |e::es,i+1=>e::sA es i k v
def pz (es:List MapEntry) (i:Nat):List MapEntry:=
 match es,i with
 | [],_=>[]
 |_::es,0=>es
 |e::es,i+1=>e::pz es i
def c_ (tb:bO) (A:Mem) (t:TypeId) (m k v:Value):R Mem:=
 match tb.ba t,m with
 |some (.map kt _),.map (some r)=>
  bif eQ tb kt k then
   match A.get r with
   |some (.map es clock)=>match findF k es 0 with
    |some (some (i,_))=>.ok (A.set r (.map (sA es i k v) clock))
    |some none=>.ok (A.set r (.map (es++[{key:=k,val:=v,born:=clock}]) (clock+1)))
    |none=>.no 139
   |_=>.no 140
  else .no 141
 |_,_=>.no 142
def vW (tb:bO) (A:Mem) (t:TypeId) (m k:Value):R (Value×Mem):=
 match tb.ba t,m with
 |some (.map kt _),.map none=>bif eQ tb kt k then .ok (bL,A) else .no 143
 |some (.map kt _),.map (some r)=>
  bif eQ tb kt k then
   match A.get r with
   |some (.map es clock)=>match findF k es 0 with
    |some (some (i,_))=>.ok (bL,A.set r (.map (pz es i) clock))
    |some none=>.ok (bL,A.set r (.map es clock))
    |none=>.no 144
   |_=>.no 145
  else .no 146
 |_,_=>.no 147
def tR (tb:bO) (A:Mem) (t:TypeId) (x:Value):R (Value×Mem):=
 match tb.ba t,x with
 |some .string,.string s=>.ok (.pointer (some ⟨A.next,0,none⟩),A.alloc (.sit s 0))
 |some (.map _ _),.map (some r)=>match A.get r with
  |some (.map _ c)=>.ok (.pointer (some ⟨A.next,0,none⟩),A.alloc (.mit r c none))
  |_=>.no 148
 |_,_=>.no 148
def JD (A:Mem) (x:Value) (isString:Bool):R (Value×Mem):=
 match x,isString with
 | .pointer (some ⟨r,0,none⟩),true=>match A.get r with
  |some (.sit s pos)=>
   bif qax pos s.size then
    let cw:=Utf8.decode s pos
    .ok (.tuple ⟨[.bool true,goInt pos,.int .i32 cw.1]⟩,A.set r (.sit s (pos+cw.2)))
   else .ok (.tuple ⟨[.bool false]⟩,A)
  |_=>.no 149
 | .pointer (some ⟨r,0,none⟩),false=>match A.get r with
  |some (.mit m c b)=>match A.get m with
   |some (.map [e] k)=>bif qaw k c&&qax e.born c then match b with
    |none=>.ok (.tuple ⟨[.bool true,e.key,e.val]⟩,A.set r (.mit m c (some e.born)))
    |some x=>bif qaw x e.born then .ok (.tuple ⟨[.bool false]⟩,A) else .no 149
    else .no 149
   |_=>.no 149
  |_=>.no 149
 |_,_=>.no 150
def CJ (A:Mem) (x:Value):R (Value×Mem):=
 match x with
 | .pointer (some ⟨r,0,none⟩)=>match A.get r with
  |some (.mit m c (some x))=>match A.get m with
   |some (.map [e] k)=>bif qaw k c&&qaw x e.born then .ok (.tuple ⟨[e.key,e.val]⟩,A) else .no 149
   |_=>.no 149
  |_=>.no 149
 |_=>.no 150
inductive Pl where
 |val (v:Value)
 |var (a:Addr)
def Pl.get (tb:bO) (g:Nat→Option Ob) (t:TypeId) (x:Pl):R Value:=
 match x with
 | .val v=>.ok v
 | .var a=>ag tb g t (.pointer (some a))
def lh (tb:bO) (g:Nat→Option Ob):List FieldStep→TypeId→Pl→R (TypeId×Pl)
 | [],t,x=>.ok (t,x)
 |s::rest,t,x=>
  match tb.ba s.struct with
  |some (.struct fs)=>match fs.toList[s.index]? with
   |some f=>(aR tb f.type).bind fun n=>
    match s.deref with
    |true=>(x.get tb g t).bind fun v=>match v with
     | .pointer (some a)=>match a.spot with
      |none=>bif qaw n 0 then .no 160 else lh tb g rest f.type (.var (h_ a f.offset))
      |some _=>.no 161
     |_=>.no 162
    |false=>match x with
     | .var a=>match a.spot with
      |none=>bif qaw n 0 then .no 163 else lh tb g rest f.type (.var (h_ a f.offset))
      |some _=>.no 164
     | .val (.agg cs)=>(jr tb f.type cs.toList f.offset).bind fun v=>lh tb g rest f.type (.val v)
     | .val _=>.no 165
   |none=>.no 166
  |_=>.no 167
def pS (tb:bO) (g:Nat→Option Ob) (xt:TypeId) (x:Pl) (ptr:Bool):R Value:=
 match tb.ba xt,ptr,x with
 |some (.pointer _),true,x=>x.get tb g xt
 |some (.pointer elem),false,x=>(x.get tb g xt).bind fun v=>match v with
  | .pointer (some a)=>ag tb g elem (.pointer (some a))
  |_=>.no 168
 |some _,true,.var a=>.ok (.pointer (some a))
 |some _,true,.val _=>.no 169
 |some _,false,x=>x.get tb g xt
 |none,_,_=>.no 170
def wi (tb:bO) (g:Nat→Option Ob):Nat→TypeId→Value→String→R (FuncId×Value)
 |0,_,_,_=>.no 171
 |d+1,t,v,name=>
  match tb.ty.get t with
  |none=>.no 172
  |some i=>match i.methods.toList.find? (fun m=>m.name==name) with
   |none=>.no 173
   |some m=>(lh tb g m.path.toList t (.val v)).bind fun(xt,x)=>
    match m.func with
    |none=>(x.get tb g xt).bind fun w=>match w with
     | .iface t' v'=>wi tb g d t' v' name
     |_=>.no 174
    |some (f,ptr)=>(pS tb g xt x ptr).bind fun r=>.ok (f,r)
inductive Cl where
 |fn (f:FuncId) (args:List Value)
 |round (l:Nat) (args:List Value)
def mG (tb:bO) (g:Nat→Option Ob) (recv:Value) (name:String) (args:List Value):R Cl:=
 match recv with
 | .iface t v=>(wi tb g 100 t v name).bind fun(f,r)=>.ok (.fn f (r::args))
 |_=>.no 180
def iG (tb:bO) (g:Nat→Option Ob) (v:Value) (args:List Value):R Cl:=
 match v with
 | .func (.func f) first captured=>.ok (.fn f (first.toList++args++captured.toList))
 | .func (.yield l) _ _=>.ok (.round l args)
 | .func (.method name) first _=>match first.toList++args with
  |recv::args=>mG tb g recv name args
  | []=>.no 181
 | .func (.methodOf t name) first _=>match first.toList++args with
  |recv::args=>match tb.ba t with
   |some (.interface _)=>mG tb g recv name args
   |some _=>mG tb g (.iface t recv) name args
   |none=>.no 182
  | []=>.no 183
 | .func (.via t path f ptr) first _=>match first.toList++args with
  |x::args=>(lh tb g path.toList t (.val x)).bind fun(xt,x)=>(pS tb g xt x ptr).bind fun r=>.ok (.fn f (r::args))
  | []=>.no 184
 |_=>.no 185
def EG {β:Type} (n:Nat) (k:Nat→β):β:=Nat.rec (motive:=fun _=>β) (k 0) (fun m _=>k (qdi m)) n
def UW {β:Type} (n:Int) (k:Int→β) (fn:Nat→(Nat→β)→β):β:=
 match n with
 | .ofNat m=>fn m fun m=>k (.ofNat m)
 | .negSucc m=>fn m fun m=>k (.negSucc m)
def Jb {β:Type} (a:Addr) (k:Addr→β):β:=
 match a with
 |⟨b,o,none⟩=>EG b fun b=>EG o fun o=>k ⟨b,o,none⟩
 |a=>k a
def TM {α β:Type} (l:List α) (k:List α→β):β:=
 List.rec (motive:=fun _=>(List α→β)→β) (fun k=>k []) (fun x _ ih k=>ih fun l=>k (x::l)) l k
def UX {β:Type} (v:Value) (k:Value→β):β:=
 match v with
 | .int kd n=>UW n (fun n=>k (.int kd n)) EG
 | .bool true=>k (.bool true)
 | .bool false=>k (.bool false)
 | .pointer (some a)=>Jb a fun a=>k (.pointer (some a))
 | .slice (some a) len cap=>Jb a fun a=>EG len fun len=>EG cap fun cap=>k (.slice (some a) len cap)
 | .agg ⟨l⟩=>TM l fun l=>k (.agg ⟨l⟩)
 |v=>k v
theorem v_ {β:Type} (n:Nat) (k:Nat→β):EG n k=k n:=by cases n<;>rfl
theorem N2 {α β:Type} (l:List α):∀(k:List α→β),TM l k=k l:=by
 induction l with
 |nil=>exact fun _=>rfl
 |cons x l ih=>exact fun k=>ih _
theorem RH {β:Type} (n:Int) (k:Int→β):UW n k EG=k n:=by cases n<;>simp [UW,v_]
theorem N1 {β:Type} (a:Addr) (k:Addr→β):Jb a k=k a:=by
 obtain⟨b,o,s⟩:=a;cases s<;>simp [Jb,v_]
theorem CV {β:Type} (v:Value) (k:Value→β):UX v k=k v:=by
 unfold UX;split<;>simp [RH,N1,v_,N2]
structure St where
 t:T Value
 n:Nat
 d:List Nat
 m:Mem
 ro:Option Nat
inductive Ex where
 |nrm
 |exit (id:Nat)
 |ret
 |kx (v:Value)
def ev (t:T Value) (x:Operand):R Value:=
 match x with
 | .tmp i=>match t.get i with
  |some v=>.ok v
  |none=>.no 200
 | .const v=>bif gT 3 v then .ok v else .no 199
 | .func f=>.ok (.func (.func f) ⟨[]⟩ ⟨[]⟩)
 | .global _=>.no 201
def pC (t:T Value):List Operand→R (List Value)
 | []=>.ok []
 |x::xs=>(ev t x).bind fun v=>(pC t xs).bind fun vs=>.ok (v::vs)
def EC (t:T Value) (x:Option Operand):R (Option Value):=
 match x with
 |none=>.ok none
 |some x=>(ev t x).bind fun v=>.ok (some v)
def Hr (t:T Value):List (Nat×Operand)→R (List (Nat×Value))
 | []=>.ok []
 |(i,x)::xs=>(ev t x).bind fun v=>(Hr t xs).bind fun vs=>.ok ((i,v)::vs)
inductive ZT where
 |P|Rd|Al|L
 deriving DecidableEq
def lW:Option TypeDesc→Bool
 |some .bool|some (.int _)|some .string=>true
 |_=>false
def cls (tb:bO) (o:Op):ZT:=
 match o with
 | .indexAddr _ x _=>match x with
  | .global _=>.Rd
  |_=>.P
 | .move _| .assign _| .pick ..| .build ..| .unOp ..| .makeInterface ..| .makeFunc ..| .fieldAddr ..| .field ..| .index ..| .extract ..
 | .slice ..| .typeAssert ..| .nilCheck _=>.P
 | .binOp op t _ _ _=>match op with
  | .eql| .neq=>bif lW (tb.ba t) then .P else .Rd
  |_=>.P
 | .convert s d _=>match tb.ba s,tb.ba d with
  |some .string,some (.slice _)=>.Al
  |some (.slice _),some .string=>.Rd
  |some (.pointer _),_=>.Rd
  |some .unsafePointer,_=>.Rd
  |_,_=>.P
 | .load ..| .lookup ..=>.Rd
 | .alloc _| .box ..| .buildSlice ..| .makeMap ..| .makeSlice ..=>.Al
 | .call c=>match c.callee with
  | .builtin b=>match b with
   | .cap| .min| .max=>.P
   | .unsafeSliceData=>.P
   | .len=>match c.argTypes.toList with
    |t::_=>match tb.ba t with
     |some (.map _ _)=>.Rd
     |_=>.P
    | []=>.L
   |_=>.L
  |_=>.L
 |_=>.L
def E7 (tb:bO) (t:TypeId) (x:Value):R Value:=
 match tb.ba t,x with
 |some .string,.string s=>.ok (.int .i64 (.ofNat s.data.toList.length))
 |some (.array n _),_=>.ok (.int .i64 (.ofNat n))
 |some (.slice _),.slice _ n _=>.ok (.int .i64 (.ofNat n))
 |some (.slice _),.complex .f32 0 0=>.ok (.int .i64 (.ofNat 0))
 |_,_=>.no 202
def Nu (tb:bO) (t:TypeId) (x:Value):R Value:=
 match tb.ba t,x with
 |some (.array n _),_=>.ok (.int .i64 (.ofNat n))
 |some (.slice _),.slice _ _ c=>bif dN c then .ok (.int .i64 (.ofNat (bJ c))) else .ok (J' (bJ c))
 |_,_=>.no 204
def aN (tb:bO) (b:Builtin) (ts:List TypeId) (args:List Value):R Value:=
 match b,ts,args with
 | .len,t::_,x::_=>E7 tb t x
 | .cap,t::_,x::_=>Nu tb t x
 | .min,_,x::l=>AL ON x l
 | .max,_,x::l=>AL OM x l
 | .unsafeSliceData,_,[.slice (some a) _ c]=>bif qax 0 (bJ c) then .ok (.pointer (some a)) else .no 205
 | .unsafeSliceData,_,[.slice none _ _]=>.ok (.pointer none)
 |_,_,_=>.no 206
def tQ (tb:bO) (t:T Value) (o:Op):R Value:=
 match o with
 | .move x=>ev t x
 | .assign x=>ev t x
 | .pick c a b=>(ev t c).bind fun c=>match c with
  | .bool true=>ev t a
  | .bool false=>ev t b
  |_=>.no 207
 | .build ty ps=>(Hr t ps.toList).bind fun ps=>ct tb ty ps
 | .unOp op _ x=>(ev t x).bind fun x=>WT op x
 | .makeInterface ty x=>(ev t x).bind fun x=>match tb.ba ty with
  |some (.interface _)=>.no 208
  |some _=>.ok (.iface ty x)
  |none=>.no 209
 | .makeFunc fn a b=>(pC t a.toList).bind fun a=>(pC t b.toList).bind fun b=>match fn with
  | .yield _=>.no 210
  |fn=>.ok (.func fn ⟨a⟩ ⟨b⟩)
 | .fieldAddr ty x i=>(ev t x).bind fun x=>av tb ty x i
 | .field ty x i=>(ev t x).bind fun x=>tE tb ty x i
 | .indexAddr ty x i=>(ev t x).bind fun x=>(ev t i).bind fun i=>aU tb ty x i
 | .index ty x i=>(ev t x).bind fun x=>(ev t i).bind fun i=>nf tb ty x i
 | .extract x i=>(ev t x).bind fun x=>match x with
  | .tuple vs=>match vs.toList[i]? with
   |some v=>.ok v
   |none=>.no 211
  |_=>.no 212
 | .slice ty x lo hi mx=>(ev t x).bind fun x=>(EC t lo).bind fun lo=>(EC t hi).bind fun hi=>(EC t mx).bind fun mx=>c6 tb ty x lo hi mx
 | .typeAssert x _ ty ok=>(ev t x).bind fun x=>rA tb x ty ok
 | .nilCheck x=>(ev t x).bind fun x=>match x with
  | .pointer (some a)=>.ok (.pointer (some a))
  | .iface a b=>.ok (.iface a b)
  | .map a=>.ok (.map a)
  | .func (.func f) a b=>.ok (.func (.func f) a b)
  | .func (.yield f) a b=>.ok (.func (.yield f) a b)
  |_=>.no 213
 | .binOp op ty x y _=>(ev t x).bind fun x=>(ev t y).bind fun y=>iM op (tb.ba ty) x y
 | .convert s d x=>(ev t x).bind fun x=>gi tb s d x
 | .call c=>match c.callee with
  | .builtin b=>(pC t c.args.toList).bind fun args=>aN tb b c.argTypes.toList args
  |_=>.no 214
 |_=>.no 215
def df (tb:bO) (g:Nat→Option Ob) (s d:TypeId) (x:Value):R Value:=
 match tb.ba s,tb.ba d,x with
 |some (.slice e),some .string,x=>match tb.ba e with
  |some (.int .u8)=>iB g x
  |_=>.no 216
 |some (.pointer ty),some .unsafePointer,.pointer (some a)=>match a.spot,g a.block with
  |none,some (.cells _ (.var n) _ _)=>(aR tb ty).bind fun sz=>bif qax a.off n&&qax 0 sz then .ok (.pointer (some a)) else .no 217
  |_,_=>.no 218
 |some .unsafePointer,some (.pointer ty),.pointer (some a)=>match a.spot,g a.block with
  |none,some (.cells e (.var n) _ _)=>(aR tb ty).bind fun _=>bif liesAt tb.P tb.P.depth e (n/tb.P.cellsOf e) a.off ty 1 then .ok (.pointer (some a)) else .no 219
  |_,_=>.no 220
 |_,_,_=>.no 221
def nX (tb:bO) (t:T Value) (g:Nat→Option Ob) (o:Op):R Value:=
 match o with
 | .load ty x=>match x with
  | .global k=>(Jk g k).bind fun x=>ag tb g ty x
  |x=>(ev t x).bind fun x=>ag tb g ty x
 | .indexAddr ty x i=>match x with
  | .global k=>(Jk g k).bind fun x=>(ev t i).bind fun i=>aU tb ty x i
  |_=>.no 224
 | .lookup ty x k ok=>(ev t x).bind fun x=>(ev t k).bind fun k=>fZ tb g ty x k ok
 | .binOp op ty x y _=>(ev t x).bind fun a=>(ev t y).bind fun b=>vY tb g op ty x y a b
 | .convert s d x=>(ev t x).bind fun x=>df tb g s d x
 | .call c=>match c.callee with
  | .builtin .len=>(pC t c.args.toList).bind fun args=>match args with
   |x::_=>(iU g x).bind fun es=>.ok (.int .i64 (.ofNat es.length))
   | []=>.no 222
  |_=>.no 223
 |_=>.no 224
def DW (tb:bO) (t:T Value) (o:Op):R (Ob×Way):=
 match o with
 | .alloc e=>(bS tb e).bind fun z=>.ok (aa e z.cells.toList,.ptr)
 | .box e x=>(ev t x).bind fun v=>.ok (aa e v.cells.toList,.ptr)
 | .buildSlice ty len ps=>(Hr t ps.toList).bind fun ps=>a6 tb ty len ps
 | .makeMap ty r=>(EC t r).bind fun r=>gB tb ty r
 | .makeSlice ty l c=>(ev t l).bind fun l=>(ev t c).bind fun c=>eE tb ty l c
 | .convert s d x=>(ev t x).bind fun x=>ku tb s d x
 |_=>.no 225
inductive Gp where
 |val (v:Value) (m:Mem)
 |kx (v:Value) (m:Mem)
def gJ (tb:bO) (A:Mem) (b:Builtin) (ts:List TypeId) (args:List Value):R (Value×Mem):=
 match b,ts,args with
 | .append,st::xt::_,s::x::_=>bj tb A st xt s x
 | .copy,dt::_,d::s::_=>I3 tb A dt d s
 | .clear,ty::_,x::_=>CE tb A ty x
 | .delete,ty::_,m::k::_=>vW tb A ty m k
 | .unsafeString,ty::_,[x,n]=>zq tb A ty x n
 |_,_,_=>.no 226
def HI (tb:bO) (t:T Value) (A:Mem) (o:Op):R (Value×Mem):=
 match o with
 | .store ty x v=>(ev t x).bind fun x=>(ev t v).bind fun v=>(aW tb A ty x v).bind fun A'=>.ok (bL,A')
 | .mapUpdate ty m k v=>(ev t m).bind fun m=>(ev t k).bind fun k=>(ev t v).bind fun v=>(c_ tb A ty m k v).bind fun A'=>.ok (bL,A')
 | .insert ty m k v=>(ev t m).bind fun m=>(ev t k).bind fun k=>(ev t v).bind fun v=>(c_ tb A ty m k v).bind fun A'=>.ok (bL,A')
 | .range ty x=>(ev t x).bind fun x=>tR tb A ty x
 | .next x isS=>(ev t x).bind fun x=>JD A x isS
 | .entry x=>(ev t x).bind fun x=>CJ A x
 | .call c=>match c.callee with
  | .builtin b=>(pC t c.args.toList).bind fun args=>gJ tb A b c.argTypes.toList args
  |_=>.no 227
 |_=>.no 228
def MX (A:Mem) (a b:Addr):R Unit:=
 match a.spot,b.spot,A.get a.block,A.get b.block with
 |none,none,some (.cells _ (.var _) _ _),some (.cells _ _ _ c)=>match c.get 0 with
  |some _=>bif qaw a.block b.block then .no 230 else .ok ()
  |none=>.no 230
 |_,_,_,_=>.no 231
def qN (c:Nat):List UInt8→Nat→Nat
 | [],n=>n
 |x::l,n=>bif qaw x.toNat c then qN c l (n+1) else qN c l n
def yA (c:Nat):List UInt8→Nat→Int
 | [],_=>.negSucc 0
 |x::l,n=>bif qaw x.toNat c then .ofNat n else yA c l (n+1)
def CO (tb:bO) (k:Nat) (fn:Func) (args:List Value) (A:Mem):R (Value×Mem):=
 match k,args with
 |1,[x]=>.ok (x,A)
 |2,[.slice (some a) _ _,.slice (some b) _ _]=>match fn.params.toList,fn.resultTypes.toList with
  | [p,q],[_]=>match tb.ba p with
   |some (.slice e)=>(aR tb e).bind fun _=>bif qaw p q then(MX A a b).bind fun _=>.ok (.bool false,A) else .no 231
   |_=>.no 232
  |_,_=>.no 233
 |3,[.int .i64 (.ofNat n)]=>match fn.resultTypes.toList with
  |p::_=>match tb.ba p with
   |some (.slice e)=>bif qaq n 1048576&&(match tb.ba e with|some (.int .u8)=>true|_=>false) then
    .ok (.slice (some ⟨A.next,0,none⟩) n (fQ n 1),A.alloc (.cells e .row 0 (T.bK .e 0 (qa7 n (.chan (some 0)))))) else .no 234
   |_=>.no 235
  | []=>.no 236
 |4,[.iface t (.map (some r))]=>match A.get r with
  |some (.map es clock)=>.ok (.iface t (.map (some A.next)),A.alloc (.map es clock))
  |_=>.no 237
 |5,[.int .u64 (.ofNat x),.int .u64 (.ofNat y),.int .u64 (.ofNat c)]=>bif qaq c 1 then
  .ok (.tuple ⟨[.int .u64 (.ofNat ((x+y+c) % 18446744073709551616)),.int .u64 (.ofNat ((x+y+c)/18446744073709551616))]⟩,A) else .no 260
 |6,[.string s,.int .u8 (.ofNat c)]=>bif qax c 256 then .ok (.int .i64 (.ofNat (qN c s.data.toList 0)),A) else .no 261
 |7,[.string s,.int .u8 (.ofNat c)]=>bif qax c 256 then .ok (.int .i64 (yA c s.data.toList 0),A) else .no 262
 |_,_=>.no 238
def eV (tb:bO) (t:T Value) (g:Nat→Option Ob):List ResultVar→R (List Value)
 | []=>.ok []
 | .tmp i::rs=>(ev t (.tmp i)).bind fun v=>(eV tb t g rs).bind fun vs=>.ok (v::vs)
 | .cell i ty::rs=>(ev t (.tmp i)).bind fun a=>(ag tb g ty a).bind fun v=>(eV tb t g rs).bind fun vs=>.ok (v::vs)
def oneOf (vs:List Value):Value:=
 match vs with
 | [v]=>v
 |vs=>.tuple ⟨vs⟩
def eW:List Nat→Mem→R Mem
 | [],A=>.ok A
 |b::bs,A=>match A.get b with
  |some .defd=>eW bs (A.set b .dead)
  |_=>.no 240
def setArgs (n:Nat):List Tmp→List Value→T Value→R (T Value)
 | [],[],t=>.ok t
 |p::ps,v::vs,t=>bif qax p n then setArgs n ps vs (t.set p v) else .no 241
 |_,_,_=>.no 242
section
variable (tb:bO) (ih:Code→St→R (Ex×St))
def nw (l:Nat) (args:List Value) (A:Mem):R Gp:=
 match A.get l with
 |some (.loop r)=>
  (setArgs r.n r.params args r.tmps).bind fun t=>
  (ih r.assign {t,n:=r.n,d:=[],m:=A,ro:=some l}).bind fun(e,s1)=>
  match e,s1.m.get l with
  | .nrm,some (.loop r1)=>
   match r1.state with
   | .ready=>
    (ih r.body {s1 with m:=s1.m.set l (.loop {r1 with state:=.busy})}).bind fun(e,s2)=>
    match e,s2.d,s2.m.get l with
    | .nrm,[],some (.loop r2)=>.ok (.val (.bool true) (s2.m.set l (.loop {r2 with state:=.ready,pending:=none})))
    | .exit id,[],some (.loop r2)=>.ok (.val (.bool false) (s2.m.set l (.loop {r2 with state:=.done,pending:=some (.exit id)})))
    | .ret,[],some (.loop r2)=>.ok (.val (.bool false) (s2.m.set l (.loop {r2 with state:=.done,pending:=some .ret})))
    |_,_,_=>.no 243
   |_=>.no 244
  |_,_=>.no 245
 |_=>.no 246
def mo (fn:Func) (c:Code) (args:List Value) (A:Mem):R Gp:=
 bif qaq args.length fn.ntmps then
  (ih c {t:=T.bK .e 0 args,n:=fn.ntmps,d:=[],m:=A,ro:=none}).bind fun(e,s)=>
  match e with
  | .kx v=>match s.d with
   | []=>.ok (.kx v s.m)
   |_=>.no 239
  | .exit _=>.no 248
  |_=>(eW s.d s.m).bind fun A'=>(eV tb s.t A'.get fn.results.toList).bind fun vs=>.ok (.val (oneOf vs) A')
 else .no 249
def bA (c:Cl) (A:Mem):R Gp:=
 match c with
 | .round l args=>nw ih l args A
 | .fn f args=>match tb.fn.get f with
  |none=>.no 247
  |some fn=>bif fn.name== "runtime.NumGoroutine" then .no 256 else match fn.body with
   |none=>match tb.ex.get f with
    |some k=>(CO tb k fn args A).bind fun(v,A')=>.ok (.val v A')
    |none=>.no (1000+f)
   |some c=>match tb.hk.get f with
    |some h=>(h args A).bind fun(v,A')=>.ok (.val v A')
    |none=>mo tb ih fn c args A
def bR (s:St) (dst:Option Tmp) (v:Value) (k:St→R (Ex×St)):R (Ex×St):=
 match dst with
 |none=>k s
 |some d=>bif qax d s.n then UX v fun v=>k {s with t:=s.t.set d v} else .no 250
def w_ (t:T Value) (g:Nat→Option Ob) (c:Call):R Cl:=
 (pC t c.args.toList).bind fun args=>
 match c.callee with
 | .value f=>(ev t f).bind fun f=>iG tb g f args
 | .invoke r name=>(ev t r).bind fun r=>mG tb g r name args
 | .builtin _=>.no 251
def iz (o:Op):Option Call:=
 match o with
 | .call c=>match c.callee with
  | .builtin _=>none
  |_=>some c
 |_=>none
def dL (o:Oper) (s:St) (k:St→R (Ex×St)):R (Ex×St):=
 match iz o.op with
 |some c=>(w_ tb s.t s.m.get c).bind fun cl=>(bA tb ih cl s.m).bind fun r=>match r with
  | .val v A=>bR {s with m:=A} o.dst v k
  | .kx v A=>.ok (.kx v,{s with m:=A})
 |none=>match cls tb o.op with
  | .P=>(tQ tb s.t o.op).bind fun v=>bR s o.dst v k
  | .Rd=>(nX tb s.t s.m.get o.op).bind fun v=>bR s o.dst v k
  | .Al=>(DW tb s.t o.op).bind fun(ob,way)=>bR {s with m:=s.m.alloc ob} o.dst (way.at s.m.next) k
  | .L=>match o.op with
   | .panic x=>(ev s.t x).bind fun x=>match x with
    | .iface t v=>.ok (.kx (.iface t v),s)
    |_=>.no 252
   |_=>(HI tb s.t s.m o.op).bind fun(v,A)=>bR {s with m:=A} o.dst v k
def fu (ops:List Oper) (o:Oper) (t:T Value):R Bool:=
 match o.guard with
 |none=>.ok true
 |some (j,want)=>match ops[j]? with
  |some oj=>match oj.dst with
   |some d=>match t.get d with
    |some (.bool b)=>.ok (bif b then want else !want)
    |some (.tuple _)=>.ok false
    |some _=>.no 257
    |none=>.no 253
   |none=>.no 254
  |none=>.no 255
def dY (ops:List Oper) (l:List Oper):St→R (Ex×St):=
 List.rec (motive:=fun _=>St→R (Ex×St)) (fun s=>.ok (.nrm,s))
  (fun o _ next s=>(fu ops o s.t).bind fun w=>bif w then dL tb ih o s next else bR s o.dst bL next) l
end
def tw (acc:List Nat):List Edge→R Nat
 | []=>.ok 0
 |e::es=>(tw acc es).bind fun m=>
  bif Region.binds .any e then
   match acc[e.on]? with
   |some a=>.ok (Nat.lor (Nat.lor (Nat.shiftLeft 1 e.on) a) m)
   |none=>.no 300
  else .ok m
def O9:Operand→List Tmp
 | .tmp t=>[t]
 |_=>[]
def jA (ops:List Oper) (o:Oper):List Tmp:=
 (o.op.operands.toList.flatMap O9)++(match o.guard with
  |some (j,_)=>match ops[j]? with
   |some oj=>oj.dst.toList
   |none=>[]
  |none=>[])
def jZ (a b:List Nat):Bool:=a.any fun x=>b.any fun y=>qaw x y
structure Gn where
 m:Nat
 c:ZT
 w:List Tmp
 r:List Tmp
def EX (tb:bO) (ops:List Oper):List Oper→List Nat→R (List Gn)
 | [],_=>.ok []
 |o::os,acc=>(tw acc o.after.toList).bind fun m=>EG m fun m=>(EX tb ops os (acc++[m])).bind fun l=>
  .ok ({m,c:=cls tb o.op,w:=o.dst.toList,r:=jA ops o}::l)
def O4 (i:Nat) (a:Gn) (j:Nat) (b:Gn):R (List (Nat×Nat)):=
 bif Nat.testBit b.m i then .ok []
 else bif jZ a.w b.w||jZ a.w b.r||jZ a.r b.w then .no 301
 else match a.c,b.c with
  | .L,.L=>.no 302
  | .Rd,.L=>.ok [(i,j)]
  | .L,.Rd=>.ok [(j,i)]
  | .Al,.L=>.ok [(i,j)]
  |_,_=>.ok []
def wu (j:Nat) (b:Gn):List Gn→Nat→R (List (Nat×Nat))
 | [],_=>.ok []
 |a::l,i=>(O4 i a j b).bind fun p=>(wu j b l (i+1)).bind fun q=>.ok (p++q)
def Dl (all:List Gn):List Gn→Nat→R (List (Nat×Nat))
 | [],_=>.ok []
 |b::l,j=>(wu j b (all.take j) 0).bind fun p=>(Dl all l (j+1)).bind fun q=>.ok (p++q)
def gU (tb:bO) (ops:List Oper):R (List (Nat×Nat)):=
 (EX tb ops ops []).bind fun l=>Dl l l 0
def qx (a b:Option Nat):Bool:=
 match a,b with
 |none,none=>true
 |some a,some b=>qaw a b
 |_,_=>false
def uT (a b:Addr):Bool:=qaw a.block b.block&&qaw a.off b.off&&qx a.spot b.spot
def yZ (a b:Fn):Bool:=
 match a,b with
 | .func f,.func g=>qaw f g
 | .yield f,.yield g=>qaw f g
 |_,_=>false
def cG:Nat→Value→Value→Bool
 |0,_,_=>false
 |d+1,a,b=>
  let all:List Value→List Value→Bool:=fun l m=>qaw l.length m.length&&(l.zip m).all fun(x,y)=>cG d x y
  match a,b with
  | .bool true,.bool true=>true
  | .bool false,.bool false=>true
  | .int k x,.int k' y=>eD k k'&&ou x y
  | .string x,.string y=>eY x.data.toList y.data.toList
  | .pointer none,.pointer none=>true
  | .pointer (some x),.pointer (some y)=>uT x y
  | .slice none l c,.slice none l' c'=>qaw l l'&&qaw c c'
  | .slice (some x) l c,.slice (some y) l' c'=>uT x y&&qaw l l'&&qaw c c'
  | .map x,.map y=>qx x y
  | .chan x,.chan y=>qx x y
  | .nilFunc,.nilFunc=>true
  | .nilIface,.nilIface=>true
  | .iface t x,.iface u y=>qaw t u&&cG d x y
  | .func f x y,.func g x' y'=>yZ f g&&all x.toList x'.toList&&all y.toList y'.toList
  | .agg x,.agg y=>all x.toList y.toList
  | .tuple x,.tuple y=>all x.toList y.toList
  | .complex .f32 0 0,.complex .f32 0 0=>true
  |_,_=>false
def b_ (r l:Nat) (fl:List (Nat×Nat)):Bool:=fl.any fun p=>qaw p.1 r&&qaw p.2 l
structure Rec where
 i:Nat
 t:T Value
 o:Op
 v:Value
def eg (tb:bO) (g:Nat→Option Ob) (x:Rec):Bool:=
 match nX tb x.t g x.o with
 | .ok v=>cG 100 v x.v
 | .no _=>false
section
variable (tb:bO) (ih:Code→St→R (Ex×St))
def wE (b:Nat) (o:Option Ob) (l:List (Nat×Mem)):List (Nat×Mem):=
 match o with
 |some o=>l.map fun m=>(m.1,m.2.set b o)
 |none=>l
def ff:List Nat→Mem→Mem
 | [],A=>A
 |b::bs,A=>ff bs (A.set b .dead)
def gI (g:Nat→Option Ob):List Nat→Mem→R Mem
 | [],A=>.ok A
 |b::bs,A=>match g b with
  |some o=>gI g bs (A.set b o)
  |none=>.no 313
def dX (ops:List Oper) (fl:List (Nat×Nat)) (l:List Oper):(i:Nat)→(mems:List (Nat×Mem))→(recs:List Rec)→(mks:List (Nat×Nat))→St→R (Ex×St):=
 List.rec (motive:=fun _=>Nat→List (Nat×Mem)→List Rec→List (Nat×Nat)→St→R (Ex×St)) (fun _ _ _ _ s=>.ok (.nrm,s))
  (fun o _ next i mems recs mks s=>(fu ops o s.t).bind fun w=>
   bif w then
    match cls tb o.op with
    | .L=>dL tb ih o {s with m:=ff ((mks.filter fun x=>b_ x.1 i fl).map (·.2)) s.m} fun s'=>
     (gI s.m.get ((mks.filter fun x=>b_ x.1 i fl).map (·.2)) s'.m).bind fun A=>
     bif (recs.filter fun x=>b_ x.i i fl).all (eg tb A.get) then next (i+1) ((i,s.m)::mems) recs mks {s' with m:=A} else .no 310
    | .Rd=>(nX tb s.t s.m.get o.op).bind fun v=>
     bif (mems.filter fun m=>b_ i m.1 fl).all (fun m=>eg tb m.2.get ⟨i,s.t,o.op,v⟩) then bR s o.dst v (next (i+1) mems (⟨i,s.t,o.op,v⟩::recs) mks) else .no 311
    | .Al=>dL tb ih o s fun s'=>next (i+1) (wE s.m.next (s'.m.get s.m.next) mems) recs ((i,s.m.next)::mks) s'
    | .P=>dL tb ih o s (next (i+1) mems recs mks)
   else bR s o.dst bL (next (i+1) mems recs mks)) l
def regionF (ops:List Oper) (draw:Bool) (s:St):R (Ex×St):=
 bif draw then
  (gU tb ops).bind fun fl=>(dX tb ih ops fl ops 0 [] [] [] s).bind fun(e,s)=>
  match e with
  | .nrm=>.ok (.nrm,s)
  |_=>.no 312
 else dY tb ih ops ops s
def fU (f:Operand) (params:List Tmp) (assign body:Code) (fnId:FuncId) (s:St):R (Ex×St):=
 (ev s.t f).bind fun fv=>
 (match s.ro with
  |some l=>match s.m.get l with
   |some (.loop r)=>R.ok (r.defers,s.m,([]:List Nat))
   |_=>.no 320
  |none=>.ok (s.m.next,s.m.alloc .defd,[s.m.next])).bind fun(dfb,A,mark)=>
 let lid:=A.next
 let A:=A.alloc (.loop {state:=.ready,pending:=none,fn:=fnId,tmps:=s.t,n:=s.n,params,assign,body,defers:=dfb})
 (iG tb A.get fv [.func (.yield lid) ⟨[]⟩ ⟨[]⟩]).bind fun c=>(bA tb ih c A).bind fun r=>
 match r with
 | .kx _ _=>.no 324
 | .val _ A=>match A.get lid with
  |some (.loop r)=>
   let s':St:={s with m:=A.set lid (.loop {r with state:=.exhausted}),d:=mark++s.d}
   match r.state,r.pending with
   | .busy,_=>.no 321
   |_,none=>.ok (.nrm,s')
   |_,some (.exit id)=>.ok (.exit id,s')
   |_,some .ret=>.ok (.ret,s')
   |_,some _=>.no 322
  |_=>.no 323
def P5 (c:Code) (s:St):R (Ex×St):=
 match c with
 | .skip=>.ok (.nrm,s)
 | .label _=>.ok (.nrm,s)
 | .region _ ops draw=>regionF tb ih ops.toList draw s
 | .seq a b=>(ih a s).bind fun(e,s')=>match e with
  | .nrm=>ih b s'
  |e=>.ok (e,s')
 | .cond c a b=>(ev s.t c).bind fun v=>match v with
  | .bool true=>ih a s
  | .bool false=>ih b s
  |_=>.no 330
 | .block id c=>(ih c s).bind fun(e,s')=>match e with
  | .exit i=>bif qaw i id then .ok (.nrm,s') else .ok (.exit i,s')
  |e=>.ok (e,s')
 | .loop c=>(ih c s).bind fun(e,s')=>match e with
  | .nrm=>ih (.loop c) s'
  |e=>.ok (e,s')
 | .scope c=>ih c s
 | .exit id=>.ok (.exit id,s)
 | .ret=>.ok (.ret,s)
 | .rangeFunc f ps a b=>fU tb ih f ps.toList a b 0 s
 | .goto _=>.no 331
 | .refuse _=>.no 332
end
def exec (tb:bO) (n:Nat):Code→St→R (Ex×St):=
 Nat.rec (motive:=fun _=>Code→St→R (Ex×St)) (fun _ _=>.no 0) (fun _ ih=>P5 tb ih) n
def call (tb:bO) (n:Nat) (f:FuncId) (args:List Value) (A:Mem):R Gp:=
 match tb.fn.get f with
 |none=>.no 400
 |some fn=>match fn.body with
  |none=>.no 401
  |some c=>mo tb (exec tb n) fn c args A
structure Loc where
 blk:Nat
 sh:Nat
 sz:Nat
abbrev de:=Nat→Option Loc
def Fg:Fn→Prop
 | .yield _=>False
 |_=>True
mutual
inductive VR (ι:de):Value→Value→Prop
 |bool (b:Bool):VR ι (.bool b) (.bool b)
 |int (k:IntKind) (n:Int):VR ι (.int k n) (.int k n)
 |string (s:ByteArray):VR ι (.string s) (.string s)
 |ptrN:VR ι (.pointer none) (.pointer none)
 |ptr {b o:Nat} {l:Loc} (h:ι b=some l):VR ι (.pointer (some ⟨b,o,none⟩)) (.pointer (some ⟨l.blk,o+l.sh,none⟩))
 |slN:VR ι (.slice none 0 0) (.slice none 0 0)
 |sl {b o len k:Nat} {l:Loc} (h:ι b=some l) (hk:dN k=true):VR ι (.slice (some ⟨b,o,none⟩) len k) (.slice (some ⟨l.blk,o+l.sh,none⟩) len (bJ k))
 |slX {b o o' len k cap':Nat} {l:Loc} (h:ι b=some l) (hk:dN k=false) (hc:bJ k≤cap') (hsz:o'+cap'*gO k≤l.sz)
  (ho:0<cap'→o'=o+l.sh) (hb:cap'<2^63) (hl:len≤bJ k):VR ι (.slice (some ⟨b,o,none⟩) len k) (.slice (some ⟨l.blk,o',none⟩) len cap')
 |mapN:VR ι (.map none) (.map none)
 |map {b:Nat} {l:Loc} (h:ι b=some l):VR ι (.map (some b)) (.map (some l.blk))
 |func {fn:Fn} {a b a' b':Array Value} (hf:Fg fn) (ha:dv ι a.toList a'.toList) (hb:dv ι b.toList b'.toList):VR ι (.func fn a b) (.func fn a' b')
 |yield {b:Nat} {l:Loc} (h:ι b=some l):VR ι (.func (.yield b) ⟨[]⟩ ⟨[]⟩) (.func (.yield l.blk) ⟨[]⟩ ⟨[]⟩)
 |nilFunc:VR ι .nilFunc .nilFunc
 |nilIface:VR ι .nilIface .nilIface
 |iface {t:TypeId} {v v':Value} (h:VR ι v v'):VR ι (.iface t v) (.iface t v')
 |agg {a a':Array Value} (h:dv ι a.toList a'.toList):VR ι (.agg a) (.agg a')
 |tuple {a a':Array Value} (h:dv ι a.toList a'.toList):VR ι (.tuple a) (.tuple a')
 |unk {v':Value} (h:aJ v'=true):VR ι (.chan (some 0)) v'
 |least {n m:Nat} (h:n≤m) (hm:m<2^63):VR ι (.complex .f64 n 0) (.int .i64 (.ofNat m))
 |emp (a:Addr):VR ι (.complex .f32 0 0) (.slice (some a) 0 0)
inductive dv (ι:de):List Value→List Value→Prop
 |nil:dv ι [] []
 |cons {v v':Value} {l l':List Value} (h:VR ι v v') (ht:dv ι l l'):dv ι (v::l) (v'::l')
end
def eK (ι ι':de):Prop:=∀b l,ι b=some l→ι' b=some l
theorem eK.trans {a b c:de} (h:eK a b) (k:eK b c):eK a c:=fun x l hx=>k x l (h x l hx)
mutual
theorem VR.mono {ι ι':de} (hi:eK ι ι') {v v':Value} (h:VR ι v v'):VR ι' v v':=by
 cases h with
 |bool b=>exact .bool b
 |int k n=>exact .int k n
 |string s=>exact .string s
 |ptrN=>exact .ptrN
 |ptr h=>exact .ptr (hi _ _ h)
 |slN=>exact .slN
 |sl h hk=>exact .sl (hi _ _ h) hk
 |slX h hk hc hsz ho hb hl=>exact .slX (hi _ _ h) hk hc hsz ho hb hl
 |mapN=>exact .mapN
 |map h=>exact .map (hi _ _ h)
 |func hf ha hb=>exact .func hf (dv.mono hi ha) (dv.mono hi hb)
 |yield h=>exact .yield (hi _ _ h)
 |nilFunc=>exact .nilFunc
 |nilIface=>exact .nilIface
 |iface h=>exact .iface (VR.mono hi h)
 |agg h=>exact .agg (dv.mono hi h)
 |tuple h=>exact .tuple (dv.mono hi h)
 |unk h=>exact .unk h
 |least h hm=>exact .least h hm
 |emp a=>exact .emp a
theorem dv.mono {ι ι':de} (hi:eK ι ι') {l l':List Value} (h:dv ι l l'):dv ι' l l':=by
 cases h with
 |nil=>exact .nil
 |cons h ht=>exact .cons (VR.mono hi h) (dv.mono hi ht)
end
variable {ι:de}
theorem dv.length:∀{l l':List Value},dv ι l l'→l'.length=l.length
 |_,_,.nil=>rfl
 |_,_,.cons _ ht=>by simp [ht.length]
theorem dv.get:∀{l l':List Value},dv ι l l'→∀(i:Nat) (v:Value),l[i]?=some v→∃v',l'[i]?=some v'∧VR ι v v'
 |_,_,.nil,i,v,h=>by simp at h
 |_,_,.cons h ht,0,v,e=>by simp at e;subst e;exact⟨_,rfl,h⟩
 |_,_,.cons h ht,i+1,v,e=>by
  simp at e;obtain⟨v',e',r⟩:=ht.get i v e;exact⟨v',by simpa using e',r⟩
theorem dv.yd:∀{l l':List Value},l'.length=l.length→(∀(i:Nat) (v v':Value),l[i]?=some v→l'[i]?=some v'→VR ι v v')→dv ι l l'
 | [],[],_,_=>.nil
 | [],_::_,h,_=>by simp at h
 |_::_,[],h,_=>by simp at h
 |v::l,v'::l',h,f=>.cons (f 0 v v' rfl rfl) (dv.yd (by simpa using h) fun i a b ha hb=>f (i+1) a b (by simpa using ha) (by simpa using hb))
theorem dv.append:∀{a a' b b':List Value},dv ι a a'→dv ι b b'→dv ι (a++b) (a'++b')
 |_,_,_,_,.nil,h=>h
 |_,_,_,_,.cons h ht,k=>.cons h (ht.append k)
theorem dv.take:∀{a a':List Value} (n:Nat),dv ι a a'→dv ι (a.take n) (a'.take n)
 |_,_,0,_=>by simpa using .nil
 |_,_,n+1,.nil=>by simpa using .nil
 |_,_,n+1,.cons h ht=>by simpa using .cons h (ht.take n)
theorem dv.drop:∀{a a':List Value} (n:Nat),dv ι a a'→dv ι (a.drop n) (a'.drop n)
 |_,_,0,h=>by simpa using h
 |_,_,n+1,.nil=>by simpa using .nil
 |_,_,n+1,.cons _ ht=>by simpa using ht.drop n
variable {v v':Value}
theorem VR.cells (h:VR ι v v'):dv ι v.cells.toList v'.cells.toList:=by
 have hc:=h;cases h with
 |agg h=>exact h
 |unk h1=>
  have e:v'.cells= #[v']:=by
   cases v'<;>first|rfl|simp [aJ] at h1
  rw [e];exact .cons hc .nil
 |_=>exact .cons hc .nil
theorem VR.one (h:VR ι v v') (h1:aJ v=true):aJ v'=true:=by
 cases h<;>first|rfl|assumption|simp [aJ] at h1
mutual
theorem mZ {ι:de}:∀(d:Nat) (v:Value),gT d v=true→VR ι v v
 |0,_,h=>by simp [gT] at h
 |d+1,v,h=>by
  unfold gT at h;split at h<;>first
   |(constructor;done)
   |exact .iface (mZ d _ h)
   |exact .agg (m6 d _ (qby.1 h))
   |exact .tuple (m6 d _ (qby.1 h))
   |exact .func trivial .nil .nil
   |simp at h
theorem m6 {ι:de}:∀(d:Nat) (l:List Value),(∀v∈l,gT d v=true)→dv ι l l
 |d,[],_=>.nil
 |d,v::l,h=>.cons (mZ d v (h v (by simp))) (m6 d l fun x hx=>h x (by simp [hx]))
end
def TR (ι:de) (n:Nat) (τ:T Value) (t:Array Value):Prop:=t.size=n∧∀i v,τ.get i=some v→∃v',t[i]?=some v'∧VR ι v v'
variable {ι':de} {n:Nat}
theorem TR.mono (hi:eK ι ι') {τ:T Value} {t:Array Value} (h:TR ι n τ t):TR ι' n τ t:=
 ⟨h.1,fun i v hv=>let⟨v',e,r⟩:=h.2 i v hv;⟨v',e,r.mono hi⟩⟩
variable {d:Nat}
theorem TR.set {τ:T Value} {t:Array Value} (h:TR ι n τ t) (hd:d<n) (hv:VR ι v v'):TR ι n (τ.set d v) (t.setIfInBounds d v'):=by
 refine⟨by simp [h.1],fun i x hx=>?_⟩;rw [T.aH] at hx;by_cases hi:i=d
 ·subst hi;rw [if_pos rfl] at hx;cases hx;exact⟨v',by simp [h.1,hd],hv⟩
 ·rw [if_neg hi] at hx;obtain⟨x',e,r⟩:=h.2 i x hx;refine⟨x',?_,r⟩;rw [qdB (Ne.symm hi)];exact e
inductive wz (ι:de):List MapEntry→List MapEntry→Prop
 |nil:wz ι [] []
 |cons {e e':MapEntry} {l l':List MapEntry} (hk:VR ι e.key e'.key) (hb:e'.born=e.born) (hv:VR ι e.val e'.val) (ht:wz ι l l'):wz ι (e::l) (e'::l')
theorem wz.mono (hi:eK ι ι'):∀{l l':List MapEntry},wz ι l l'→wz ι' l l'
 |_,_,.nil=>.nil
 |_,_,.cons hk hb hv ht=>.cons (hk.mono hi) hb (hv.mono hi) (ht.mono hi)
theorem wz.length:∀{l l':List MapEntry},wz ι l l'→l'.length=l.length
 |_,_,.nil=>rfl
 |_,_,.cons _ _ _ ht=>by simp [ht.length]
structure LR (ι:de) (r:f_) (r':Loop):Prop where
 state:r'.state=r.state
 pending:r'.pending=r.pending
 tmps:TR ι r.n r.tmps r'.tmps
 params:r'.params.toList=r.params
 assign:r'.assign=r.assign
 body:r'.body=r.body
 defers:∃l,ι r.defers=some l∧r'.defers=l.blk
def OR (ι:de) (o:Ob) (l:Loc) (o':Obj):Prop:=
 match o with
 | .cells t x fz c=>∃cs fr,o'= .cells cs t fr∧cs.size=l.sz∧(∀i v,c.get i=some v→∃v',cs[i+l.sh]?=some v'∧VR ι v v')∧
  match x with
  | .var n=>l.sh=0∧l.sz=n∧fr=(0,0)
  | .row=>fr.2≤l.sh+fz
  | .mark=>∀i,i<l.sz→¬(fr.1≤i∧i<fr.2)
  | .room n=>fr.2≤l.sh+fz∧l.sh+n≤l.sz
 | .map es clock=>l.sh=0∧∃es',o'= .map es' clock∧wz ι es es'.toList
 | .sit s pos=>l.sh=0∧o'= .stringIter s pos
 | .mit m c b=>l.sh=0∧∃lm,ι m=some lm∧o'= .mapIter (some lm.blk) c b.toArray c
 | .loop r=>l.sh=0∧∃r',o'= .loop r'∧LR ι r r'
 | .defd=>o'= .deferred (some [])
 | .dead=>True
variable {o':Obj}
theorem OR.mono (hi:eK ι ι') {o:Ob} {l:Loc} (h:OR ι o l o'):OR ι' o l o':=by
 cases o with
 |cells t x fz c=>
  obtain⟨cs,fr,e,h1,h2,h3⟩:=h;exact⟨cs,fr,e,h1,fun i v hv=>let⟨v',e,r⟩:=h2 i v hv;⟨v',e,r.mono hi⟩,h3⟩
 |map es clock=>obtain⟨h0,es',e,h⟩:=h;exact⟨h0,es',e,h.mono hi⟩
 |sit s pos=>exact h
 |mit m c b=>obtain⟨h0,lm,h1,h2⟩:=h;exact⟨h0,lm,hi _ _ h1,h2⟩
 |loop r=>
  obtain⟨h0,r',e,h⟩:=h;obtain⟨ld,hl,hd⟩:=h.defers;exact⟨h0,r',e,⟨h.state,h.pending,h.tmps.mono hi,h.params,h.assign,h.body,ld,hi _ _ hl,hd⟩⟩
 |defd=>exact h
 |dead=>trivial
def alive:Ob→Bool
 | .dead=>false
 |_=>true
def live (A:Mem) (b:Nat):Prop:=∃o,A.get b=some o∧alive o=true
structure Rel (ι:de) (A:Mem) (w:World):Prop where
 wf:∀b,A.next≤b→A.get b=none
 obs:∀b o l,A.get b=some o→alive o=true→ι b=some l→∃o',w.heap[l.blk]?=some o'∧OR ι o l o'
 rng:∀b l,ι b=some l→l.blk<w.heap.size
 inj:∀b b' l l',live A b→live A b'→ι b=some l→ι b'=some l'→l.blk=l'.blk→b=b'
 gl:∀b t k c,A.get b=some (.cells t .row (GB k) c)→∃l,ι b=some l∧l.blk=k∧l.sh=0∧l.sz≤18446744073709551616
def eU (ι:de) (A A':Mem):Prop:=∀b,A.next≤b→b<A'.next→ι b=none
def Still (A:Mem) (b:Nat) (l:Loc):Prop:=b<A.next∧∃t fz c,A.get b=some (.cells t .row fz c)∧9223372036854775808≤fz∧l.sz<fz
structure eH (ι:de) (A:Mem) (w:World) (ι':de) (A':Mem) (w':World):Prop where
 next:A.next≤A'.next
 out:∀b,b<A.next∨A'.next≤b→ι' b=ι b
 src:∀b l,live A' b→ι' b=some l→w.heap.size≤l.blk∨∃b0 l0,live A b0∧ι b0=some l0∧l0.blk=l.blk
 fr:∀c,c<w.heap.size→(∀b l,live A b→ι b=some l→l.blk≠c)→w'.heap[c]?=w.heap[c]?
 size:w.heap.size≤w'.heap.size
 os:w'.os=w.os
 tape:w'.tape=w.tape
 output:w'.output=w.output
 kept:∀b l,ι b=some l→Still A b l→A'.get b=A.get b∧w'.heap[l.blk]?=w.heap[l.blk]?
variable {A A':Mem} {w':World}
theorem eH.le {w:World} (h:eH ι A w ι' A' w') (hf:eU ι A A'):eK ι ι':=by
 intro b l hb;rcases qaZ b A.next with h1|h1
 ·rw [h.out b (.inl h1)];exact hb
 ·rcases qaZ b A'.next with h2|h2
  ·rw [hf b h1 h2] at hb;cases hb
  ·rw [h.out b (.inr h2)];exact hb
theorem eH.refl (ι:de) (A:Mem) (w:World):eH ι A w ι A w:=
 ⟨qao _,fun _ _=>rfl,fun b l hb hl=>.inr ⟨b,l,hb,hl,rfl⟩,fun _ _ _=>rfl,qao _,rfl,rfl,rfl,fun _ _ _ _=>⟨rfl,rfl⟩⟩
theorem eH.trans {ι1 ι2:de} {A1 A2:Mem} {w w1 w2:World} (h:eH ι A w ι1 A1 w1) (k:eH ι1 A1 w1 ι2 A2 w2):eH ι A w ι2 A2 w2 where
 next:=qaV h.next k.next
 out:=fun b hb=>by
  have:=h.next
  have:=k.next
  rw [k.out b (by omega),h.out b (by omega)]
 src:=fun b l hb hl=>by
  rcases k.src b l hb hl with h1|⟨b0,l0,h1,h2,h3⟩
  ·exact .inl (qaV h.size h1)
  ·rcases h.src b0 l0 h1 h2 with h4|⟨b1,l1,h4,h5,h6⟩
   ·exact .inl (by omega)
   ·exact .inr ⟨b1,l1,h4,h5,by omega⟩
 fr:=fun c hc hn=>by
  rw [k.fr c (qaD hc h.size),h.fr c hc hn];intro b l hb hl he;rcases h.src b l hb hl with h1|⟨b0,l0,h1,h2,h3⟩
  ·omega
  ·exact hn b0 l0 h1 h2 (by omega)
 size:=qaV h.size k.size
 os:=k.os.trans h.os
 tape:=k.tape.trans h.tape
 output:=k.output.trans h.output
 kept:=fun b l hl hs=>by
  obtain⟨e1,e2⟩:=h.kept b l hl hs;obtain⟨h1,t,fz,c,h2,h3⟩:=hs;obtain⟨e3,e4⟩:=k.kept b l (by rw [h.out b (.inl h1)];exact hl) ⟨qaD h1 h.next,t,fz,c,by rw [e1];exact h2,h3⟩;exact⟨e3.trans e1,e4.trans e2⟩
theorem eU.left {A1 A2:Mem} (h:eU ι A A2) (k:A1.next≤A2.next):eU ι A A1:=fun b h1 h2=>h b h1 (by omega)
theorem eU.right {ι1:de} {A1 A2:Mem} {w w1:World} (h:eU ι A A2) (k:eH ι A w ι1 A1 w1):eU ι1 A1 A2:=fun b h1 h2=>by
 rw [k.out b (.inr h1)];exact h b (qaV k.next h1) h2
structure Wu (w w':World) (c:Nat) (o:Obj):Prop where
 size:w.heap.size≤w'.heap.size
 at_:w'.heap[c]?=some o
 ne:∀k,k<w.heap.size→k≠c→w'.heap[k]?=w.heap[k]?
 os:w'.os=w.os
 tape:w'.tape=w.tape
 output:w'.output=w.output
theorem aC (A:Mem) (b x:Nat) (o:Ob):(A.set b o).get x=if x=b then some o else A.get x:=T.aH ..
theorem cQ (A:Mem) (x:Nat) (o:Ob):(A.alloc o).get x=if x=A.next then some o else A.get x:=T.aH ..
theorem aO (A:Mem) (b:Nat) (o:Ob):(A.set b o).next=A.next:=rfl
theorem ae (A:Mem) (o:Ob):(A.alloc o).next=A.next+1:=rfl
variable {b:Nat}
theorem eh {l:Loc} {o:Ob} (hg:A.get b=some o) (h:∀t fz c,o= .cells t .row fz c→fz<9223372036854775808∨fz≤l.sz):¬Still A b l:=by
 rintro⟨_,t,fz,c,h2,h3,h4⟩;rw [hg] at h2;cases h2;rcases h t fz c rfl with h|h<;>omega
variable {ob:Ob}
theorem Rel.zn {w:World} {o:Ob} {l:Loc} (h:Rel ι A w) (hg:A.get b=some o) (ha:alive o=true) (hl:ι b=some l) (hns:¬Still A b l) (hgl:∀t k c,ob= .cells t .row (GB k) c→∃t' c',o= .cells t' .row (GB k) c')
 (hw:Wu w w' l.blk o') (hs:w'.heap.size=w.heap.size) (ho:OR ι ob l o'):Rel ι (A.set b ob) w'∧eH ι A w ι (A.set b ob) w':=by
 have hlive:∀x,live (A.set b ob) x→live A x:=by
  rintro x ⟨ox,hx,hal⟩;rw [aC] at hx;by_cases hxb:x=b
  ·subst hxb;exact⟨o,hg,ha⟩
  ·rw [if_neg hxb] at hx;exact⟨ox,hx,hal⟩
 refine⟨⟨fun x hx=>?_,fun x ox lx hx hal hlx=>?_,fun x lx hlx=>by rw [hs];exact h.rng x lx hlx,fun x y lx ly hx hy hlx hly he=>h.inj x y lx ly (hlive x hx) (hlive y hy) hlx hly he,fun x t k c hx=>by
  rw [aC] at hx;by_cases hxb:x=b
  ·subst hxb;rw [if_pos rfl] at hx;obtain⟨t',c',rfl⟩:=hgl t k c (qbo hx);exact h.gl x _ _ _ hg
  ·rw [if_neg hxb] at hx;exact h.gl x _ _ _ hx⟩,
  ⟨qao _,fun _ _=>rfl,fun x lx hx hlx=>.inr ⟨x,lx,hlive x hx,hlx,rfl⟩,fun c hc hn=>hw.ne c hc ?_,by omega,hw.os,hw.tape,hw.output,fun x lx hlx hsx=>?_⟩⟩
 ·rw [aO] at hx;rw [aC,if_neg]
  ·exact h.wf x hx
  ·rintro rfl;rw [h.wf x hx] at hg;cases hg
 ·rw [aC] at hx;by_cases hxb:x=b
  ·subst hxb;rw [if_pos rfl] at hx;cases hx;rw [hl] at hlx;cases hlx;exact⟨o',hw.at_,ho⟩
  ·rw [if_neg hxb] at hx;obtain⟨o2,h1,h2⟩:=h.obs x ox lx hx hal hlx;refine⟨o2,?_,h2⟩;rw [hw.ne _ (h.rng x lx hlx)]
   ·exact h1
   ·intro he;exact hxb (h.inj x b lx l ⟨ox,hx,hal⟩ ⟨o,hg,ha⟩ hlx hl he)
 ·rintro rfl;exact hn b l ⟨o,hg,ha⟩ hl rfl
 ·have hxb:x≠b:=by
   rintro rfl;rw [hl] at hlx;cases hlx;exact hns hsx
  obtain⟨_,t,fz,c,h2,_⟩:=hsx;refine⟨by rw [aC,if_neg hxb],hw.ne _ (h.rng x lx hlx) fun he=>hxb (h.inj x b lx l ⟨_,h2,rfl⟩ ⟨o,hg,ha⟩ hlx hl he)⟩
theorem Rel.Nz {w:World} {sz g:Nat} (h:Rel ι A w) (hf:ι A.next=none) (hgl:∀t k c,ob≠ .cells t .row (GB k) c)
 (hg:w.heap.size≤g) (hw:Wu w w' g o') (hs:g<w'.heap.size)
 (ho:∀ι',eK ι ι'→ι' A.next=some ⟨g,0,sz⟩→OR ι' ob ⟨g,0,sz⟩ o'):
 ∃ι',ι' A.next=some ⟨g,0,sz⟩∧Rel ι' (A.alloc ob) w'∧eH ι A w ι' (A.alloc ob) w':=by
 let ι':de:=fun b=>if b=A.next then some ⟨g,0,sz⟩ else ι b
 have hin:ι' A.next=some ⟨g,0,sz⟩:=if_pos rfl
 have hne:∀b,b≠A.next→ι' b=ι b:=fun b hb=>if_neg hb
 have hle:eK ι ι':=fun b l hb=>by
  by_cases e:b=A.next
  ·rw [e,hf] at hb;cases hb
  ·rw [hne b e];exact hb
 have hlive:∀x,x≠A.next→live (A.alloc ob) x→live A x:=by
  rintro x hne ⟨ox,hx,hal⟩;rw [cQ,if_neg hne] at hx;exact⟨ox,hx,hal⟩
 refine⟨ι',hin,⟨fun x hx=>?_,fun x ox lx hx hal hlx=>?_,fun x lx hlx=>?_,fun x y lx ly hx hy hlx hly he=>?_,fun x t k c hx=>by
  rw [cQ] at hx;by_cases e:x=A.next
  ·rw [if_pos e] at hx;exact absurd (qbo hx) (hgl t k c)
  ·rw [if_neg e] at hx;rw [hne x e];exact h.gl x _ _ _ hx⟩,
  ⟨by rw [ae];omega,fun x hx=>hne x ?_,fun x lx hx hlx=>?_,fun c hc _=>hw.ne c hc (by omega),by omega,hw.os,hw.tape,hw.output,fun x lx hlx hsx=>⟨by rw [cQ,if_neg (by have:=hsx.1;omega)],hw.ne _ (h.rng x lx hlx) (by have:=h.rng x lx hlx;omega)⟩⟩⟩
 ·rw [ae] at hx;rw [cQ,if_neg (by omega)];exact h.wf x (by omega)
 ·rw [cQ] at hx;by_cases e:x=A.next
  ·subst e;rw [if_pos rfl] at hx;cases hx;rw [hin] at hlx;cases hlx;exact⟨o',hw.at_,ho ι' hle hin⟩
  ·rw [if_neg e] at hx;rw [hne x e] at hlx;obtain⟨o2,h1,h2⟩:=h.obs x ox lx hx hal hlx;exact⟨o2,by rw [hw.ne _ (h.rng x lx hlx) (by have:=h.rng x lx hlx;omega)];exact h1,h2.mono hle⟩
 ·by_cases e:x=A.next
  ·subst e;rw [hin] at hlx;cases hlx;exact hs
  ·rw [hne x e] at hlx;have:=h.rng x lx hlx;omega
 ·by_cases ex:x=A.next
  ·by_cases ey:y=A.next
   ·omega
   ·subst ex;rw [hin] at hlx;cases hlx;rw [hne y ey] at hly;have:=h.rng y ly hly;simp only at he;omega
  ·by_cases ey:y=A.next
   ·subst ey;rw [hin] at hly;cases hly;rw [hne x ex] at hlx;have:=h.rng x lx hlx;simp only at he;omega
   ·rw [hne x ex] at hlx;rw [hne y ey] at hly;exact h.inj x y lx ly (hlive x ex hx) (hlive y ey hy) hlx hly he
 ·rw [ae] at hx;omega
 ·by_cases e:x=A.next
  ·subst e;rw [hin] at hlx;cases hlx;exact .inl hg
  ·rw [hne x e] at hlx;exact .inr ⟨x,lx,hlive x e hx,hlx,rfl⟩
theorem Rel.CG {w:World} {sz:Nat} (h:Rel ι A w) (hf:ι A.next=none) (hgl:∀t k c,ob≠ .cells t .row (GB k) c)
 (hw:Wu w w' w.heap.size o') (hs:w'.heap.size=w.heap.size+1)
 (ho:∀ι',eK ι ι'→ι' A.next=some ⟨w.heap.size,0,sz⟩→OR ι' ob ⟨w.heap.size,0,sz⟩ o'):
 ∃ι',ι' A.next=some ⟨w.heap.size,0,sz⟩∧Rel ι' (A.alloc ob) w'∧eH ι A w ι' (A.alloc ob) w':=h.Nz hf hgl (qao _) hw (by omega) ho
section
theorem R.ai {α β:Type} {x:R α} {f:α→R β} {b:β} (h:x.bind f= .ok b):∃a,x= .ok a∧f a= .ok b:=by
 cases x with
 |ok a=>exact⟨a,rfl,h⟩
 |no w=>cases h
theorem cS {a:Nat} (h:qax a b=true):a<b:=by rw [qaH] at h;exact h
theorem tj {a:Nat} (h:qax a b=false):¬a<b:=fun h'=>by
 have:qax a b=true:=by rw [qaH];exact h'
 rw [h] at this;cases this
theorem cR {a:Nat} (h:qaq a b=true):a≤b:=by rw [qdm] at h;exact h
theorem tf {a:Nat} (h:qaq a b=false):¬a≤b:=fun h'=>by
 have:qaq a b=true:=by rw [qdm];exact h'
 rw [h] at this;cases this
theorem beq_true {a:Nat} (h:qaw a b=true):a=b:=qaL h
theorem beq_false {a:Nat} (h:qaw a b=false):a≠b:=qdL h
theorem pK (a b:Int):qc a b=decide (a<b):=by
 cases a<;>cases b<;>simp only [qc]
 ·rename_i x y;rw [qbK];simp [qaH]
 ·rename_i x y;symm;simp;omega
 ·rename_i x y;symm;simp;omega
 ·rename_i x y;rw [qbK];simp [qaH];omega
theorem lv (a b:Int):ou a b=(a==b):=by
 cases a<;>cases b<;>simp only [ou]
 ·rename_i x y;rw [qbK];simp only [qcI,beq_iff_eq,qa2];omega
 ·symm;simp
 ·symm;simp
 ·rename_i x y;rw [qbK];simp
theorem mD {a b:IntKind} (h:eD a b=true):a=b:=by
 cases a<;>cases b<;>first|rfl|simp [eD] at h
theorem AV {k:IntKind} {n:Int} (h:iy k n=true):k.min≤n∧n≤k.max:=by
 cases k<;>cases n<;>simp only [iy,qaH,qaI] at h<;>
  simp only [IntKind.min,IntKind.max,IntKind.signed,IntKind.bits,if_true,if_false,qaI,qa2]<;>constructor<;>omega
theorem lV {k:IntKind} {n:Int} (h1:k.min≤n) (h2:n≤k.max):k.wrap n=n:=by
 have key:∀c d:Int,0<d→(k.signed=true→c=d+d∧-d≤n∧n<d)→(k.signed=false→d=c∧0≤n∧n<c)→
  (if(k.signed&&decide (n % c≥d))=true then n % c-c else n % c)=n:=by
  intro c d hd hs hu;cases hk:k.signed with
  |false=>
   obtain⟨_,h3,h4⟩:=hu hk;rw [qdT,if_neg (by simp)];exact Int.emod_eq_of_lt h3 h4
  |true=>
   obtain⟨h3,h4,h5⟩:=hs hk;rw [qcs];by_cases h6:0≤n
   ·rw [Int.emod_eq_of_lt h6 (by omega),if_neg (by simp only [decide_eq_true_eq];omega)]
   ·have e:n % c=n+c:=by
     rw [←Int.add_emod_right,Int.emod_eq_of_lt (by omega) (by omega)]
    rw [e,if_pos (by simp only [decide_eq_true_eq];omega)];omega
 have:=key (2^k.bits) (if k.signed then 2^(k.bits-1) else 2^k.bits) (by cases k<;>decide)
  (fun hs=>by
   rw [if_pos hs];simp only [IntKind.min,IntKind.max,hs,if_true] at h1 h2;refine⟨by cases k<;>first|rfl|(cases hs),h1,by omega⟩)
  (fun hs=>by
   rw [if_neg (by simp [hs])];simp only [IntKind.min,IntKind.max,hs,if_false,qaI] at h1 h2;exact⟨rfl,h1,by omega⟩)
 unfold IntKind.wrap;cases hk:k.signed with
 |true=>simpa [hk] using this
 |false=>simpa [hk] using this
theorem eT (k:IntKind) (n:Int):dm k n=k.wrap n:=by
 unfold dm;cases h:iy k n with
 |false=>rfl
 |true=>obtain⟨h1,h2⟩:=AV h;exact(lV h1 h2).symm
theorem C4 {k:IntKind} {a:Nat} (h:iy k (.ofNat a)=true):∃e,e≤k.bits∧a<2^e∧∀b:Nat,b<2^e→k.wrap (.ofNat b)= .ofNat b:=by
 have key:∀e,e≤k.bits→((2^e-1:Nat):Int)≤k.max→∀b:Nat,b<2^e→k.wrap (.ofNat b)= .ofNat b:=by
  intro e _ h2 b hb;refine lV ?_ ?_
  ·have:k.min≤0:=by cases k<;>decide
   have h0:(0:Int)≤qaW b:=qcw b;omega
  ·have:(qaW b)≤((2^e-1:Nat):Int):=by
    show(b:Int)≤_;omega
   omega
 cases k<;>simp only [iy,qaH,qaI] at h
 ·exact⟨31,by decide,h,key 31 (by decide) (by decide)⟩
 ·exact⟨63,by decide,h,key 63 (by decide) (by decide)⟩
 ·exact⟨8,by decide,h,key 8 (by decide) (by decide)⟩
 ·exact⟨16,by decide,h,key 16 (by decide) (by decide)⟩
 ·exact⟨32,by decide,h,key 32 (by decide) (by decide)⟩
 ·exact⟨64,by decide,h,key 64 (by decide) (by decide)⟩
theorem RT {k:IntKind} {a:Nat} (ha:iy k (.ofNat a)=true) (hb:iy k (.ofNat b)=true):
 ∃e,e≤k.bits∧a<2^e∧b<2^e∧∀c:Nat,c<2^e→k.wrap (.ofNat c)= .ofNat c:=by
 obtain⟨e,h1,h2,h3⟩:=C4 ha;obtain⟨f,k1,k2,k3⟩:=C4 hb;rcases qeG e f with h|h
 ·exact⟨f,k1,qaD h2 (qbz (by omega) h),k2,k3⟩
 ·exact⟨e,h1,h2,qaD k2 (qbz (by omega) h),h3⟩
variable {P:Program}
theorem kZ {op:BinOp} {k:IntKind} {x y:Int} (h:Ef op k x y= .ok v) (w:World):(Op.intBits op k x y).run P w= .ok v w:=by
 have aux:∀(a b:Nat),iy k (.ofNat a)=true→iy k (.ofNat b)=true→∃e,a<2^e∧b<2^e∧(∀c:Nat,c<2^e→k.wrap (.ofNat c)= .ofNat c)∧
  (BitVec.ofInt k.bits (.ofNat a)).toNat=a∧(BitVec.ofInt k.bits (.ofNat b)).toNat=b:=by
  intro a b ha hb;obtain⟨e,h0,h1,h2,h3⟩:=RT ha hb;have hle:2^e≤2^k.bits:=qbz (by omega) h0;have cast:∀n:Nat,n<2^k.bits→(BitVec.ofInt k.bits (.ofNat n)).toNat=n:=by
   intro n hn;show(BitVec.ofInt k.bits (n:Int)).toNat=n;rw [BitVec.ofInt_natCast,BitVec.toNat_ofNat,qbL hn]
  exact⟨e,h1,h2,h3,cast a (by omega),cast b (by omega)⟩
 unfold Ef at h;split at h
 ·rename_i a b;cases hc:(iy k (.ofNat a)&&iy k (.ofNat b)) with
  |false=>rw [hc] at h;cases h
  |true=>
   rw [hc] at h;simp only [cond_true,R.ok.injEq] at h;subst h;simp only [qaO] at hc;obtain⟨e,h1,h2,h3,h4,h5⟩:=aux a b hc.1 hc.2;simp only [Op.intBits];show Result.ok _ _=_;rw [BitVec.toNat_and,h4,h5];have:=h3 (a&&&b) (qbj Nat.and_le_left h1);exact congrArg (fun n=>Result.ok (Value.int k n) w) this
 ·rename_i a b;cases hc:(iy k (.ofNat a)&&iy k (.ofNat b)) with
  |false=>rw [hc] at h;cases h
  |true=>
   rw [hc] at h;simp only [cond_true,R.ok.injEq] at h;subst h;simp only [qaO] at hc;obtain⟨e,h1,h2,h3,h4,h5⟩:=aux a b hc.1 hc.2;simp only [Op.intBits];show Result.ok _ _=_;rw [BitVec.toNat_or,h4,h5];have:=h3 (a|||b) (Nat.or_lt_two_pow h1 h2);exact congrArg (fun n=>Result.ok (Value.int k n) w) this
 ·rename_i a b;cases hc:(iy k (.ofNat a)&&iy k (.ofNat b)) with
  |false=>rw [hc] at h;cases h
  |true=>
   rw [hc] at h;simp only [cond_true,R.ok.injEq] at h;subst h;simp only [qaO] at hc;obtain⟨e,h1,h2,h3,h4,h5⟩:=aux a b hc.1 hc.2;simp only [Op.intBits];show Result.ok _ _=_;rw [BitVec.toNat_xor,h4,h5];have:=h3 (a^^^b) (qdE h1 h2);exact congrArg (fun n=>Result.ok (Value.int k n) w) this
 ·rename_i a b;cases hc:(iy k (.ofNat a)&&iy k (.negSucc b)) with
  |false=>rw [hc] at h;cases h
  |true=>
   rw [hc] at h;simp only [cond_true,R.ok.injEq] at h;subst h;simp only [qaO] at hc;obtain⟨e,h0,h1,h3⟩:=C4 hc.1;have hle:2^e≤2^k.bits:=qbz (by omega) h0;have ha:(BitVec.ofInt k.bits (.ofNat a))=BitVec.ofNat k.bits a:=BitVec.ofInt_natCast ..;have hb:(BitVec.ofInt k.bits (.negSucc b))= ~~~BitVec.ofNat k.bits b:=BitVec.ofInt_negSucc_eq_not_ofNat ..;simp only [Op.intBits];show Result.ok _ _=_;rw [ha,hb];have e1:(BitVec.ofNat k.bits a&&&~~~BitVec.ofNat k.bits b).toNat=Nat.xor a (Nat.land a b):=by
    apply Nat.eq_of_testBit_eq;intro i;rw [BitVec.testBit_toNat,BitVec.getLsbD_and,BitVec.getLsbD_not,BitVec.getLsbD_ofNat,BitVec.getLsbD_ofNat];show _=Nat.testBit (a^^^(a&&&b)) i;rw [Nat.testBit_xor,Nat.testBit_and];by_cases hi:i<k.bits
    ·simp only [hi,decide_true,qcs];cases a.testBit i<;>cases b.testBit i<;>rfl
    ·have:a.testBit i=false:=Nat.testBit_lt_two_pow (qaD h1 (qbz (by omega) (by omega)));simp [hi,this]
   rw [e1];have:=h3 (Nat.xor a (Nat.land a b)) (qdE h1 (qbj Nat.and_le_left h1));exact congrArg (fun n=>Result.ok (Value.int k n) w) this
 ·cases h
theorem sP {op:BinOp} {k yk:IntKind} {x y:Int} (h:y_ op k x y= .ok v) (w:World):(Op.shift op k x yk y).run P w= .ok v w:=by
 unfold y_ at h;split at h
 ·rename_i a b;simp only [R.ok.injEq] at h;subst h;have hb:¬(qaW b<0):=by have:=qcw b;show¬((b:Int)<0);omega
  simp only [Op.shift,if_neg hb];show Result.ok _ _=_;have e1:min (qaW b).toNat k.bits=bif qax b k.bits then b else k.bits:=by
   show min b k.bits=_;cases hc:qax b k.bits with
   |true=>
    have:=cS hc;simp only [cond_true];omega
   |false=>
    have:=tj hc;simp only [cond_false];omega
  rw [e1];generalize (bif qax b k.bits then b else k.bits)=n;have e2:(qaW a).fdiv (2^n)=qaW (a.shiftRight n):=by
   show(a:Int).fdiv (2^n)=((a.shiftRight n:Nat):Int);rw [show a.shiftRight n=a>>>n from rfl,qbn];rw [Int.fdiv_eq_ediv_of_nonneg _ (by exact Int.le_of_lt (Int.pow_pos (by omega)))]
   push_cast;rfl
  rw [e2]
 ·rename_i a b;have hb:¬(qaW b<0):=by have:=qcw b;show¬((b:Int)<0);omega
  simp only [Op.shift,if_neg hb];show Result.ok _ _=_;cases hc:qax b k.bits with
  |true=>
   rw [hc] at h;simp only [cond_true,R.ok.injEq] at h;subst h;have hlt:b<k.bits:=by simpa [qaH] using hc
   have e1:min (qaW b).toNat k.bits=b:=by show min b k.bits=b;omega
   rw [e1,eT];have e2:qaW a*2^b=qaW (a.shiftLeft b):=by
    show(a:Int)*2^b=((a.shiftLeft b:Nat):Int);rw [show a.shiftLeft b=a<<<b from rfl,qex]
    push_cast;rfl
   rw [e2]
  |false=>
   rw [hc] at h;simp only [cond_false,R.ok.injEq] at h;subst h;have hge:=tj hc;have e1:min (qaW b).toNat k.bits=k.bits:=by show min b k.bits=_;omega
   rw [e1];have e2:k.wrap (qaW a*2^k.bits)=0:=by
    unfold IntKind.wrap;rw [Int.mul_emod_left];cases k<;>rfl
   rw [e2]
 ·cases h
theorem xi {op:BinOp} {k:IntKind} {x y:Int} (h:NF op k x y= .ok v) (w:World):(Op.intDiv op k x y).run P w= .ok v w:=by
 have gen:∀{op':BinOp} {z:Int→Int→Int},(op'= .quo∧z=(fun x y=>k.wrap (x.tdiv y))∨op'= .rem∧z=fun x y=>x.tmod y)→
  (bif ou y 0 then(R.no 15:R Value) else .ok (.int k (z x y)))= .ok v→(Op.intDiv op' k x y).run P w= .ok v w:=by
  intro op' z ho hh;rw [lv] at hh;by_cases hy:y=0
  ·subst hy;simp at hh
  ·have:(y==0)=false:=by simpa using hy
   rw [this] at hh;simp only [cond_false,R.ok.injEq] at hh;subst hh;rcases ho with⟨rfl,rfl⟩|⟨rfl,rfl⟩<;>simp only [Op.intDiv,if_neg hy]<;>rfl
 unfold NF at h;split at h
 ·rename_i a b;simp only [R.ok.injEq] at h;subst h;have hy:¬(qaW (b+1)=0):=by intro h;cases h
  simp only [Op.intDiv,if_neg hy];show Result.ok _ _=_;rw [eT];rfl
 ·rename_i a b;simp only [R.ok.injEq] at h;subst h;have hy:¬(qaW (b+1)=0):=by intro h;cases h
  simp only [Op.intDiv,if_neg hy];rfl
 ·exact gen (.inl ⟨rfl,rfl⟩) h
 ·exact gen (.inr ⟨rfl,rfl⟩) h
 ·cases h
theorem di:∀(x y:List UInt8),eY x y=(x==y)
 | [],[]=>rfl
 | [],_::_=>rfl
 |_::_,[]=>rfl
 |a::x,b::y=>by
  have e:qaw a.toNat b.toNat=(a==b):=by
   rw [qbK];simp [qdf]
  show(qaw a.toNat b.toNat&&eY x y)=_;rw [e,di x y];rfl
theorem wO:∀(x y:List UInt8),aX x y=Op.bytesLess x y
 | [],[]=>rfl
 |_::_,[]=>rfl
 | [],_::_=>rfl
 |a::x,b::y=>by
  have e:qaw a.toNat b.toNat=(a==b):=by
   rw [qbK];simp [qdf]
  have e2:qax a.toNat b.toNat=decide (a<b):=by
   rw [qbK];simp [qaH,qde]
  show(qax a.toNat b.toNat||(qaw a.toNat b.toNat&&aX x y))=(decide (a<b)||(a==b&&Op.bytesLess x y));rw [e,e2,wO x y]
theorem toList_data (s:ByteArray):s.toList=s.data.toList:=by
 have key:∀(n i:Nat) (acc:List UInt8),s.size-i=n→qev.loop s i acc=acc.reverse++s.data.toList.drop i:=by
  intro n
  induction n with
  |zero=>
   intro i acc h;unfold qev.loop;have hs:s.size=s.data.toList.length:=by cases s;simp [ByteArray.size]
   rw [if_neg (by omega),qdK (by omega)];simp
  |succ n ih=>
   intro i acc h;unfold qev.loop;have hs:s.size=s.data.toList.length:=by cases s;simp [ByteArray.size]
   rw [if_pos (by omega),ih (i+1) _ (by omega)];have hi:i<s.data.size:=by simpa using (by omega:i<s.data.toList.length)
   have e:s.get! i=s.data.toList[i]'(by simpa using hi):=by
    cases s;simp [ByteArray.get!,hi]
   rw [qbi (i:=i) (l:=s.data.toList) (by simpa using hi),e];simp
 have:=key s.size 0 [] (by omega);simpa [qev] using this
theorem size_data (s:ByteArray):s.size=s.data.toList.length:=by cases s;simp [ByteArray.size]
theorem DJ {op:BinOp} {x y:ByteArray} (h:fb op x.data.toList y.data.toList= .ok v) (w:World):(Op.stringOp op x y).run P w= .ok v w:=by
 unfold fb at h;split at h<;>simp only [Op.stringOp,toList_data,←di,←wO]
 ·cases hc:qax (x.data.toList.length+y.data.toList.length) 4611686018427387904 with
  |false=>rw [hc] at h;cases h
  |true=>
   rw [hc] at h;simp only [cond_true,R.ok.injEq] at h;subst h;have hl:x.data.toList.length+y.data.toList.length<4611686018427387904:=by simpa [qaH] using hc
   rw [if_neg]
   ·show Result.ok _ _=_;have:x++y=⟨⟨x.data.toList++y.data.toList⟩⟩:=by
     apply ByteArray.ext;apply qbT;simp
    rw [this];rfl
   ·rw [size_data,size_data];simp only [IntKind.max,IntKind.signed,IntKind.bits,if_true];omega
 all_goals first
  |(simp only [R.ok.injEq] at h;subst h;rfl)
  |cases h
theorem C7 {op:BinOp} {k:IntKind} {a b:Int} {t:TypeId} (h:aM op k a b= .ok v) (w:World):(binOp op t (.int k a) (.int k b)).run P w= .ok v w:=by
 have hk:¬(k≠k):=fun h=>h rfl
 unfold aM at h;split at h<;>simp only [binOp,if_neg hk]
 ·simp only [R.ok.injEq] at h;subst h;rw [eT];rfl
 ·simp only [R.ok.injEq] at h;subst h;rw [eT];rfl
 ·simp only [R.ok.injEq] at h;subst h;rw [eT];rfl
 ·exact xi h w
 ·exact xi h w
 ·exact kZ h w
 ·exact kZ h w
 ·exact kZ h w
 ·exact kZ h w
 ·simp only [R.ok.injEq] at h;subst h;rw [lv];rfl
 ·simp only [R.ok.injEq] at h;subst h;rw [lv];rfl
 ·simp only [R.ok.injEq] at h;subst h;rw [pK];rfl
 ·simp only [R.ok.injEq] at h;subst h;rw [pK];show Result.ok _ _=_;congr 2;rw [qbK];simp
 ·simp only [R.ok.injEq] at h;subst h;rw [pK];rfl
 ·simp only [R.ok.injEq] at h;subst h;rw [pK];show Result.ok _ _=_;congr 2;rw [qbK];simp
 ·cases h
 ·cases h
end
section
def Tv (k:Nat) (fn:Func):Prop:=
 fn.body=none∧(fn.name== "runtime.NumGoroutine")=false∧Extern.findNext fn=none∧
 match k with
 |1=>Extern.find fn=some Extern.AbiNoEscape.same
 |2=>Extern.find fn=some (Extern.SlicesOverlaps.overlaps fn.params fn.resultTypes)
 |3=>Extern.find fn=some (Extern.BytealgMakeNoZero.makeNoZero fn.params fn.resultTypes)
 |4=>Extern.find fn=some Extern.MapsClone.clone
 |5=>Extern.find fn=(Extern.MathBitsCarry.rows[0]?).map (·.2)
 |6=>Extern.find fn=some Extern.BytealgCount.count
 |7=>Extern.find fn=some Extern.BytealgIndexByte.indexByte
 |_=>False
def b9 (P:Program) (f:FuncId) (h:List Value→Mem→R (Value×Mem)):Prop:=
 ∀(args:List Value) (A:Mem) (v:Value) (A':Mem),h args A= .ok (v,A')→A.next≤A'.next∧∀(ι:de) (w:World) (args':Array Value),Rel ι A w→dv ι args args'.toList→eU ι A A'→
  ∀(fr:Frame) (cs:List Frame),∃ι' w' v',Steps P (lone (Frame.enter P f args' .normal) (fr::cs) w) (lone (fr.finish v') cs w')∧VR ι' v v'∧Rel ι' A' w'∧eH ι A w ι' A' w'
structure cC (tb:bO):Prop where
 ty:∀t i,tb.ty.get t=some i→tb.P.info? t=some i
 fn:∀f fn,tb.fn.get f=some fn→tb.P.funcs[f]?=some fn
 mixed:tb.P.follows .mixedOrders=true
 ex:∀f k fn,tb.ex.get f=some k→tb.fn.get f=some fn→Tv k fn
 hk:∀f h,tb.hk.get f=some h→b9 tb.P f h
variable {tb:bO} (ok:cC tb)
include ok
theorem fP {t:TypeId} {i:TypeInfo} (h:tb.ty.get t=some i) (w:World):(typeInfo t).run tb.P w= .ok i w:=by
 simp [typeInfo,ok.ty t i h]
theorem Qx {t:TypeId} {d:TypeDesc} (h:tb.ba t=some d):tb.P.underlying t=some d:=by
 unfold bO.ba at h;unfold Program.underlying;cases hi:tb.ty.get t with
 |none=>rw [hi] at h;cases h
 |some i=>
  rw [hi] at h;rw [ok.ty t i hi];obtain⟨desc,str,size,bytes,hp,al,fa,zero,cmp,ms⟩:=i;simp only at h⊢;cases desc<;>simp only at h⊢<;>try (exact h)
  rename_i nm u;cases hu:tb.ty.get u with
  |none=>rw [hu] at h;cases h
  |some j=>
   rw [hu] at h;rw [ok.ty u j hu];exact h
theorem aD {t:TypeId} {d:TypeDesc} (h:tb.ba t=some d) (w:World):(underlying t).run tb.P w= .ok d w:=by
 simp [underlying,Qx ok h]
theorem b7 {t:TypeId} {n:Nat} (h:aR tb t= .ok n) (w:World):(sizeOf t).run tb.P w= .ok n w:=by
 unfold aR at h;cases hi:tb.ty.get t with
 |none=>rw [hi] at h;cases h
 |some i=>
  rw [hi] at h;simp only [R.ok.injEq] at h;subst h;simp [sizeOf,fP ok hi]
theorem pM {t:TypeId} {d:TypeDesc} (h:tb.ba t=some d) (w:World):(isAgg t).run tb.P w= .ok (bQ d) w:=by
 simp only [isAgg,Sem.run_bind,aD ok h,Result.andThen_ok];cases d<;>rfl
omit ok in
theorem iD {t:TypeId} {v:Value} (h:bS tb t= .ok v):∃i,tb.ty.get t=some i∧i.zero=some v∧∀ι,VR ι v v:=by
 unfold bS at h;cases hi:tb.ty.get t with
 |none=>rw [hi] at h;cases h
 |some i=>
  rw [hi] at h;simp only at h;cases hz:i.zero with
  |none=>rw [hz] at h;cases h
  |some z=>
   rw [hz] at h;simp only at h;cases hc:gT 3 z with
   |false=>rw [hc] at h;cases h
   |true=>
    rw [hc] at h;simp only [cond_true,R.ok.injEq] at h;subst h;exact⟨i,rfl,hz,fun ι=>mZ 3 z hc⟩
theorem mT {t:TypeId} (h:bS tb t= .ok v) (w:World):(zeroValue t).run tb.P w= .ok v w:=by
 obtain⟨i,hi,hz,_⟩:=iD h;simp [zeroValue,fP ok hi,hz]
omit ok
variable {ι:de} {n:Nat} {τ:T Value} {a:Act}
theorem aS {x:Operand} (h:ev τ x= .ok v) (ht:TR ι n τ a.tmps):VR ι v (a.eval x):=by
 cases x with
 |tmp i=>
  simp only [ev] at h;split at h
  ·rename_i u hg;simp only [R.ok.injEq] at h;subst h;obtain⟨v',e,r⟩:=ht.2 i u hg;simp only [Act.eval,qdX,e];exact r
  ·cases h
 |const c=>
  simp only [ev] at h;cases hc:gT 3 c with
  |false=>rw [hc] at h;cases h
  |true=>
   rw [hc] at h;simp only [cond_true,R.ok.injEq] at h;subst h;exact mZ 3 c hc
 |global g=>cases h
 |func f=>
  simp only [ev,R.ok.injEq] at h;subst h;exact .func trivial .nil .nil
theorem ik:∀{xs:List Operand} {vs:List Value},pC τ xs= .ok vs→TR ι n τ a.tmps→dv ι vs (xs.map a.eval)
 | [],vs,h,_=>by simp only [pC,R.ok.injEq] at h;subst h;exact .nil
 |x::xs,vs,h,ht=>by
  unfold pC at h;obtain⟨v,hv,h⟩:=R.ai h;obtain⟨us,hu,h⟩:=R.ai h;simp only [R.ok.injEq] at h;subst h;exact .cons (aS hv ht) (ik hu ht)
inductive MQ (ι:de):Option Value→Option Value→Prop
 |none:MQ ι none none
 |some {v v':Value} (h:VR ι v v'):MQ ι (some v) (some v')
theorem pB {x:Option Operand} {v:Option Value} (h:EC τ x= .ok v) (ht:TR ι n τ a.tmps):MQ ι v (x.map a.eval):=by
 cases x with
 |none=>simp only [EC,R.ok.injEq] at h;subst h;exact .none
 |some x=>
  unfold EC at h;obtain⟨v,hv,h⟩:=R.ai h;simp only [R.ok.injEq] at h;subst h;exact .some (aS hv ht)
inductive Ui (ι:de):List (Nat×Value)→List (Nat×Value)→Prop
 |nil:Ui ι [] []
 |cons {i:Nat} {v v':Value} {l l':List (Nat×Value)} (h:VR ι v v') (ht:Ui ι l l'):Ui ι ((i,v)::l) ((i,v')::l')
theorem tC:∀{xs:List (Nat×Operand)} {vs:List (Nat×Value)},Hr τ xs= .ok vs→TR ι n τ a.tmps→Ui ι vs (xs.map fun(i,x)=>(i,a.eval x))
 | [],vs,h,_=>by simp only [Hr,R.ok.injEq] at h;subst h;exact .nil
 |(i,x)::xs,vs,h,ht=>by
  unfold Hr at h;obtain⟨v,hv,h⟩:=R.ai h;obtain⟨us,hu,h⟩:=R.ai h;simp only [R.ok.injEq] at h;subst h;exact .cons (aS hv ht) (tC hu ht)
variable {m:Nat}
theorem iA (h:kU v= .ok m) (hv:VR ι v v'):∃k,v= .int k (.ofNat m)∧v'= .int k (.ofNat m):=by
 unfold kU at h;split at h
 ·simp only [R.ok.injEq] at h;subst h;cases hv;exact⟨_,rfl,rfl⟩
 ·cases h
theorem C_ {op:BinOp} {t:TypeId} {m':Nat} {y:Int} (h:HK op m y= .ok v) (hm:m≤m') (hb:m'<2^63):
 ∃v',(∀(P:Program) (w:World),(binOp op t (.int .i64 (.ofNat m')) (.int .i64 y)).run P w= .ok v' w)∧VR ι v v':=by
 unfold HK at h;split at h
 ·rename_i k;cases hc:qaq k m with
  |false=>rw [hc] at h;cases h
  |true=>
   rw [hc] at h;simp only [cond_true,R.ok.injEq] at h;subst h;have:=cR hc;refine⟨.bool false,fun P w=>?_,.bool _⟩;simp only [binOp,ne_eq,not_true_eq_false,if_false,Op.intCmp];show Result.ok _ _=_;congr 2;simp only [decide_eq_false_iff_not,qa2];omega
 ·rename_i k;cases hc:qaq k m with
  |false=>rw [hc] at h;cases h
  |true=>
   rw [hc] at h;simp only [cond_true,R.ok.injEq] at h;subst h;have:=cR hc;refine⟨.bool true,fun P w=>?_,.bool _⟩;simp only [binOp,ne_eq,not_true_eq_false,if_false,Op.intCmp];show Result.ok _ _=_;congr 2;simp only [decide_eq_true_eq,qa2];omega
 ·rename_i k;cases hc:qaq k m with
  |false=>rw [hc] at h;cases h
  |true=>
   rw [hc] at h;simp only [cond_true,R.ok.injEq] at h;subst h;have:=cR hc;refine⟨.int .i64 (.ofNat (m'-k)),fun P w=>?_,.least (by omega) (by omega)⟩;simp only [binOp,ne_eq,not_true_eq_false,if_false,Op.intArith];show Result.ok _ _=_;have e:IntKind.i64.wrap (qaW m'-qaW k)=qaW (m'-k):=by
    have e1:qaW m'-qaW k=qaW (m'-k):=by simp only [qa2];omega
    rw [e1];refine lV ?_ ?_<;>simp only [IntKind.min,IntKind.max,IntKind.signed,IntKind.bits,if_true,qa2]<;>omega
   rw [e]
 ·cases h
theorem Da {op:BinOp} {t:TypeId} {m':Nat} {y:Int} (h:HL op y m= .ok v) (hm:m≤m'):
 ∃v',(∀(P:Program) (w:World),(binOp op t (.int .i64 y) (.int .i64 (.ofNat m'))).run P w= .ok v' w)∧VR ι v v':=by
 unfold HL at h;split at h
 ·rename_i k;cases hc:qaq k m with
  |false=>rw [hc] at h;cases h
  |true=>
   rw [hc] at h;simp only [cond_true,R.ok.injEq] at h;subst h;have:=cR hc;refine⟨.bool false,fun P w=>?_,.bool _⟩;simp only [binOp,ne_eq,not_true_eq_false,if_false,Op.intCmp];show Result.ok _ _=_;congr 2;simp only [decide_eq_false_iff_not,qa2];omega
 ·rename_i k;cases hc:qaq k m with
  |false=>rw [hc] at h;cases h
  |true=>
   rw [hc] at h;simp only [cond_true,R.ok.injEq] at h;subst h;have:=cR hc;refine⟨.bool true,fun P w=>?_,.bool _⟩;simp only [binOp,ne_eq,not_true_eq_false,if_false,Op.intCmp];show Result.ok _ _=_;congr 2;simp only [decide_eq_true_eq,qa2];omega
 ·cases h
def qJ:Value→Prop
 | .bool _| .int _ _| .string _=>True
 |_=>False
theorem qJ.vr (h:qJ v):VR ι v v:=by
 cases v<;>first|(constructor;done)|exact h.elim
theorem sM {op:BinOp} {k:IntKind} {x y:Int} (h:y_ op k x y= .ok v):qJ v:=by
 unfold y_ at h;split at h
 ·simp only [R.ok.injEq] at h;subst h;trivial
 ·rename_i b;cases hb:qax b k.bits<;>rw [hb] at h<;>simp only [cond_true,cond_false,R.ok.injEq] at h<;>subst h<;>trivial
 ·cases h
theorem Eg {op:BinOp} {k:IntKind} {x y:Int} (h:Ef op k x y= .ok v):qJ v:=by
 unfold Ef at h;split at h
 iterate 3
  ·rename_i p q;cases hb:(iy k (qaW p)&&iy k (qaW q))<;>rw [hb] at h<;>simp only [cond_true,cond_false,R.ok.injEq,reduceCtorEq] at h;subst h;trivial
 ·rename_i p q;cases hb:(iy k (qaW p)&&iy k (Int.negSucc q))<;>rw [hb] at h<;>simp only [cond_true,cond_false,R.ok.injEq,reduceCtorEq] at h;subst h;trivial
 ·cases h
theorem Hn {op:BinOp} {k:IntKind} {x y:Int} (h:NF op k x y= .ok v):qJ v:=by
 unfold NF at h;split at h
 ·simp only [R.ok.injEq] at h;subst h;trivial
 ·simp only [R.ok.injEq] at h;subst h;trivial
 ·cases hb:ou y 0<;>rw [hb] at h<;>simp only [cond_true,cond_false,R.ok.injEq,reduceCtorEq] at h;subst h;trivial
 ·cases hb:ou y 0<;>rw [hb] at h<;>simp only [cond_true,cond_false,R.ok.injEq,reduceCtorEq] at h;subst h;trivial
 ·cases h
theorem C6 {op:BinOp} {k:IntKind} {x y:Int} (h:aM op k x y= .ok v):qJ v:=by
 unfold aM at h;split at h<;>first
  |(simp only [R.ok.injEq] at h;subst h;trivial)
  |exact Hn h
  |exact Eg h
  |cases h
theorem DI {op:BinOp} {x y:List UInt8} (h:fb op x y= .ok v):qJ v:=by
 unfold fb at h;split at h
 ·cases hb:qax (x.length+y.length) 4611686018427387904<;>rw [hb] at h<;>simp only [cond_true,cond_false,R.ok.injEq,reduceCtorEq] at h;subst h;trivial
 all_goals first
  |(simp only [R.ok.injEq] at h;subst h;trivial)
  |cases h
include ok in
theorem oK {t:TypeId} (hd:tb.ba t=some .bool) (a b:Bool) (w:World):(Op.equal t (.bool a) (.bool b)).run tb.P w= .ok (a==b) w:=by
 unfold Op.equal Op.maxDepth;rw [Op.equalIn];simp only [Sem.run_bind,aD ok hd,Result.andThen_ok];rfl
include ok in
theorem GG {op:BinOp} {t:TypeId} {x x' y y' v:Value} (h:iM op (tb.ba t) x y= .ok v) (hx:VR ι x x') (hy:VR ι y y'):
 ∃v',(∀w:World,(binOp op t x' y').run tb.P w= .ok v' w)∧VR ι v v':=by
 unfold iM at h;split at h
 ·cases hx with
  |least hm hb=>cases hy;obtain⟨v',e,r⟩:=C_ (ι:=ι) (t:=t) h hm hb;exact⟨v',fun w=>e _ w,r⟩
 ·cases hx;cases hy with
  |least hm hb=>obtain⟨v',e,r⟩:=Da (ι:=ι) (t:=t) h hm;exact⟨v',fun w=>e _ w,r⟩
 ·cases hx;cases hy;rename_i k a k' b;split at h
  ·exact⟨v,fun w=>sP (P:=tb.P) (yk:=k') h w,(sM h).vr⟩
  ·exact⟨v,fun w=>sP (P:=tb.P) (yk:=k') h w,(sM h).vr⟩
  ·cases hk:eD k k' with
   |false=>rw [hk] at h;cases h
   |true=>
    rw [hk] at h;obtain rfl:=mD hk;simp only [cond_true] at h;exact⟨v,fun w=>C7 h w,(C6 h).vr⟩
 ·cases hx;cases hy;refine⟨v,fun w=>?_,(DI h).vr⟩;have:=DJ (P:=tb.P) h w;rw [←this];cases op<;>rfl
 ·rename_i a b;cases hx;cases hy;split at h
  ·rename_i hd;simp only [R.ok.injEq] at h;subst h;refine⟨.bool (a==b),fun w=>?_,?_⟩
   ·show(do pure (Value.bool (←Op.equal t (.bool a) (.bool b))):Sem Value).run tb.P w=_;simp only [Sem.run_bind,oK ok hd,Result.andThen_ok];rfl
   ·cases a<;>cases b<;>exact .bool _
  ·rename_i hd;simp only [R.ok.injEq] at h;subst h;refine⟨.bool (!(a==b)),fun w=>?_,?_⟩
   ·show(do pure (Value.bool (!(←Op.equal t (.bool a) (.bool b)))):Sem Value).run tb.P w=_;simp only [Sem.run_bind,oK ok hd,Result.andThen_ok];rfl
   ·cases a<;>cases b<;>exact .bool _
  ·cases h
 ·cases h
end
section
variable {tb:bO} (ok:cC tb) {ι:de}
variable {x' y:Value}
theorem zS {op:BinOp} {d:Option TypeDesc} {t:TypeId} {ox oy:Operand} {x y':Value} (h:iM op d x y= .ok v) (hx:VR ι x x') (hy:VR ι y y') (P:Program) (w:World):
 (eqGuard op t ox oy x' y').run P w= .ok () w:=by
 have key:∀(a b:Value),(∀p q,¬(a= .nilIface∧b= .nilIface)∧¬(a= .agg p∧b= .agg q))→(eqGuard op t ox oy a b).run P w= .ok () w:=by
  intro a b hab;unfold eqGuard;cases op<;>first
   |rfl
   |(cases a<;>first
    |rfl
    |(cases b<;>first
     |rfl
     |exact absurd ⟨rfl,rfl⟩ (hab #[] #[]).1
     |exact absurd ⟨rfl,rfl⟩ (hab _ _).2))
 refine key _ _ fun p q=>?_
 unfold iM at h;split at h
 ·cases hx with
  |least hm hb=>cases hy;exact⟨by simp,by simp⟩
 ·cases hx;exact⟨by simp,by simp⟩
 ·cases hx;exact⟨by simp,by simp⟩
 ·cases hx;exact⟨by simp,by simp⟩
 ·cases hx;exact⟨by simp,by simp⟩
 ·cases h
theorem zB {k:IntKind} (n:Int):k.wrap ((BitVec.ofInt k.bits (-1)^^^BitVec.ofInt k.bits n).toNat:Int)=k.wrap (-1-n):=by
 have hM:(0:Int)<2^k.bits:=Int.pow_pos (by omega);have e1:BitVec.ofInt k.bits (-1)=BitVec.allOnes k.bits:=by
  apply BitVec.eq_of_toInt_eq;rw [BitVec.toInt_ofInt,BitVec.toInt_allOnes];cases k<;>decide
 have e2:((BitVec.ofInt k.bits (-1)^^^BitVec.ofInt k.bits n).toNat:Int)=2^k.bits-1-n % 2^k.bits:=by
  rw [e1,BitVec.xor_comm,BitVec.xor_allOnes,BitVec.toNat_not,BitVec.toNat_ofInt];have h1:=Int.emod_nonneg n (b:=2^k.bits) (by omega);have h2:=Int.emod_lt_of_pos n hM;have h3:((2^k.bits:Nat):Int)=2^k.bits:=by push_cast;rfl
  rw [h3];omega
 rw [e2];have e3:(2^k.bits-1-n % 2^k.bits:Int) % 2^k.bits=(-1-n) % 2^k.bits:=by
  have h:=Int.mul_ediv_add_emod n (2^k.bits);have:(2^k.bits-1-n % 2^k.bits:Int)=(-1-n)+2^k.bits*(n/2^k.bits+1):=by
   rw [Int.mul_add,Int.mul_one];omega
  rw [this,Int.add_mul_emod_self_left]
 unfold IntKind.wrap;simp only [e3]
theorem Mx {op:UnOp} {x:Value} (h:WT op x= .ok v) (hx:VR ι x x'):∃v',(∀(P:Program) (w:World),(Op.unary op x').run P w= .ok v' w)∧VR ι v v':=by
 unfold WT at h;split at h
 ·cases hx;simp only [R.ok.injEq] at h;subst h;refine⟨_,fun P w=>?_,.int _ _⟩;rw [eT];rfl
 ·cases hx;rename_i k n;cases hs:k.signed with
  |true=>
   rw [hs] at h;simp only [cond_true,R.ok.injEq] at h;subst h;refine⟨_,fun P w=>?_,.int _ _⟩;simp only [Op.unary,hs,if_true,Op.intBits];show Result.ok _ _=_;rw [eT,show Int.negSucc n=-1-qaW n by simp only [qa2];omega,←zB]
  |false=>
   rw [hs] at h;cases hk:iy k (.ofNat n) with
   |false=>rw [hk] at h;cases h
   |true=>
    rw [hk] at h;simp only [cond_true,cond_false,R.ok.injEq] at h;subst h;refine⟨_,fun P w=>?_,.int _ _⟩;simp only [Op.unary,hs,qaI,if_false,Op.intBits];show Result.ok _ _=_;obtain⟨h1,h2⟩:=AV hk;have hmax:k.max=2^k.bits-1:=by simp [IntKind.max,hs]
    have hpos:0<2^k.bits:=Nat.pow_pos (by omega);have hn:n<2^k.bits:=by
     rw [hmax] at h2;have:((2^k.bits:Nat):Int)=2^k.bits:=by push_cast;rfl
     simp only [qa2] at h2;omega
    have e1:BitVec.ofInt k.bits k.max=BitVec.allOnes k.bits:=by
     rw [hmax];have:(2^k.bits-1:Int)=((2^k.bits-1:Nat):Int):=by
      rw [Int.natCast_sub (by omega)];push_cast;rfl
     rw [this,BitVec.ofInt_natCast];apply BitVec.eq_of_toNat_eq;rw [BitVec.toNat_ofNat,BitVec.toNat_allOnes,qbL (by omega)]
    have e2:BitVec.ofInt k.bits (qaW n)=BitVec.ofNat k.bits n:=BitVec.ofInt_natCast ..;rw [e1,e2,BitVec.xor_comm,BitVec.xor_allOnes,BitVec.toNat_not,BitVec.toNat_ofNat,qbL hn];have e3:k.wrap (qaW (2^k.bits-1-n))=qaW (2^k.bits-1-n):=by
     refine lV ?_ ?_
     ·have:k.min=0:=by simp [IntKind.min,hs]
      rw [this];exact qcw _
     ·rw [hmax];have:((2^k.bits:Nat):Int)=2^k.bits:=by push_cast;rfl
      simp only [qa2];omega
    exact congrArg (fun z=>Result.ok (Value.int k z) w) e3
 ·cases hx;rename_i k n;cases hs:k.signed with
  |false=>rw [hs] at h;cases h
  |true=>
   rw [hs] at h;simp only [cond_true,R.ok.injEq] at h;subst h;refine⟨_,fun P w=>?_,.int _ _⟩;simp only [Op.unary,hs,if_true,Op.intBits];show Result.ok _ _=_;rw [eT,show qaW n=-1-Int.negSucc n by simp only [qa2];omega,←zB]
 ·cases hx;simp only [R.ok.injEq] at h;subst h;exact⟨_,fun P w=>rfl,.bool _⟩
 ·cases h
variable {m:Nat}
theorem da {x:Value} {k:IntKind} {y:Nat} {c:BoundsCode} (hx:x= .int k (.ofNat m)) (hm:m≤y) (P:Program) (w:World):
 (Instr.sliceBound x y c).run P w= .ok m w:=by
 subst hx;simp only [Instr.sliceBound,asIntOf,Sem.run_bind,Sem.run_pure,Result.andThen_ok];rw [if_pos ⟨qcw _,by simp only [qa2];omega⟩];rfl
theorem dK {v v':Option Value} {most:Nat} (h:bound v d most= .ok m) (hv:MQ ι v v'):
 (v=none∧v'=none∧m=d)∨(∃x k,v=some x∧v'=some (.int k (.ofNat m))∧m≤most):=by
 cases hv with
 |none=>simp only [bound,R.ok.injEq] at h;exact .inl ⟨rfl,rfl,h.symm⟩
 |some hx=>
  simp only [bound] at h;split at h
  ·rename_i n hn;obtain⟨k,rfl,rfl⟩:=iA hn hx;cases hb:qaq n most with
   |false=>rw [hb] at h;cases h
   |true=>
    rw [hb] at h;simp only [cond_true,R.ok.injEq] at h;subst h;exact .inr ⟨_,k,rfl,rfl,cR hb⟩
  ·cases h
variable {cap:Nat}
theorem jn {lo lo' hi hi':Option Value} {len cap' h l:Nat} {isS:Bool} (hh:bound hi len cap= .ok h) (hl:bound lo 0 h= .ok l) (vl:MQ ι lo lo') (vh:MQ ι hi hi')
 (hc:cap≤cap') (P:Program) (w:World):(Instr.sliceBounds isS len cap' lo' hi' none).run P w= .ok (l,h,cap') w:=by
 unfold Instr.sliceBounds;rcases dK hh vh with⟨_,rfl,rfl⟩|⟨_,k,_,rfl,hm⟩<;>rcases dK hl vl with⟨_,rfl,rfl⟩|⟨_,k2,_,rfl,hm2⟩
 ·rfl
 ·simp only [Sem.run_bind,Sem.run_pure,Result.andThen_ok,da rfl hm2,qbI,qaI,if_false]
 ·simp only [Sem.run_bind,Sem.run_pure,Result.andThen_ok,da rfl (qaV hm hc)]
 ·simp only [Sem.run_bind,Sem.run_pure,Result.andThen_ok,da rfl (qaV hm hc),da rfl hm2,qbI,qaI,if_false]
theorem tV {lo lo':Option Value} {hi hi' mx mx':Value} {len cap' h l:Nat} {isS:Bool} (hm:bound (some mx) 0 cap= .ok m) (hh:bound (some hi) 0 m= .ok h) (hl:bound lo 0 h= .ok l)
 (vl:MQ ι lo lo') (vh:VR ι hi hi') (vm:VR ι mx mx') (hc:cap≤cap') (P:Program) (w:World):
 (Instr.sliceBounds isS len cap' lo' (some hi') (some mx')).run P w= .ok (l,h,m) w:=by
 unfold Instr.sliceBounds;rcases dK hm (.some vm) with⟨h1,_,_⟩|⟨_,k,_,h1,hm1⟩
 ·cases h1
 ·cases h1;rcases dK hh (.some vh) with⟨h1,_,_⟩|⟨_,k1,_,h1,hm2⟩
  ·cases h1
  ·cases h1;rcases dK hl vl with⟨_,rfl,rfl⟩|⟨_,k2,_,rfl,hm3⟩
   ·simp only [Sem.run_bind,Sem.run_pure,Result.andThen_ok,da rfl (qaV hm1 hc),da rfl hm2]
   ·simp only [Sem.run_bind,Sem.run_pure,Result.andThen_ok,da rfl (qaV hm1 hc),da rfl hm2,da rfl hm3]
theorem ME {a:Addr} (h:a.spot=none) (n:Nat):a.add n=h_ a n:=by
 obtain⟨b,o,s⟩:=a;cases h;unfold Addr.add h_;split
 ·rename_i h;subst h;rfl
 ·rfl
theorem cH (b o n:Nat):(⟨b,o,none⟩:Addr).add n=⟨b,o+n,none⟩:=ME rfl n
theorem D6 (b o s n:Nat):(some (⟨b,o+s,none⟩:Addr)).map (·.add n)=some ⟨b,o+n+s,none⟩:=by
 simp only [qa5,cH];rw [qcd]
variable {c:Nat}
theorem Hi (h:dN c=true):bJ c=c/2:=by unfold bJ;rw [h];rfl
theorem iT (n:Nat):dN (2*n)=true:=by
 unfold dN;show qaw ((2*n) % 2) 0=true;rw [Nat.mul_mod_right];rfl
theorem gp (n:Nat):bJ (2*n)=n:=by rw [Hi (iT n)];omega
theorem cX (n e:Nat):dN (fQ n e)=false:=by unfold dN fQ;show qaw ((2*(n*65536+e)+1) % 2) 0=false;rw [show(2*(n*65536+e)+1) % 2=1 by omega];rfl
theorem cD {e:Nat} (h:e<65536):bJ (fQ n e)=n:=by
 unfold bJ;rw [cX];show(2*(n*65536+e)+1)/2/65536=n;omega
theorem c7 {e:Nat} (h:e<65536):gO (fQ n e)=e:=by
 unfold gO fQ;show(2*(n*65536+e)+1)/2 % 65536=e;omega
theorem I0 (c:Nat):gO c<65536:=qbE _ (by omega)
theorem jO (c l:Nat):dN (gh c l)=dN c:=by
 unfold gh;cases h:dN c with
 |true=>exact iT _
 |false=>exact cX ..
theorem gS (c l:Nat):bJ (gh c l)=bJ c-l:=by
 unfold gh;cases h:dN c with
 |true=>exact gp _
 |false=>exact cD (I0 c)
theorem rK {l:Nat} (h:dN c=false):gO (gh c l)=gO c:=by
 unfold gh;rw [h];exact c7 (I0 c)
theorem extract_eq (s:ByteArray) (l h:Nat):s.extract l h=⟨⟨(s.data.toList.take h).drop l⟩⟩:=by
 apply ByteArray.ext;apply qbT;simp [ByteArray.data_extract,List.drop_take]
include ok in
theorem DC {t:TypeId} {x x' v:Value} {lo lo' hi hi' mx mx':Option Value} (h:c6 tb t x lo hi mx= .ok v) (hx:VR ι x x') (vl:MQ ι lo lo') (vh:MQ ι hi hi') (vm:MQ ι mx mx'):
 ∃v',(∀w:World,(Instr.sliceAt t x' lo' hi' mx').run tb.P w= .ok v' w)∧VR ι v v':=by
 unfold c6 at h;split at h
 ·
  rename_i s hd;cases hx;cases vm with
  |some _=>cases h
  |none=>
   simp only at h;obtain⟨hh,e1,h0⟩:=R.ai h;clear h;have h:=h0;clear h0;obtain⟨l,e2,h0⟩:=R.ai h;clear h;have h:=h0;clear h0;simp only [R.ok.injEq] at h;subst h;refine⟨.string (s.extract l hh),fun w=>?_,?_⟩
   ·simp only [Instr.sliceAt,Instr.slice,Sem.run_bind,aD ok hd,Result.andThen_ok];have:=jn (isS:=false) e1 e2 vl vh (qao _) tb.P w;rw [←size_data] at this;simp only [qbI,qaI,if_false,Sem.run_bind,Sem.run_pure,Result.andThen_ok,this]
   ·rw [extract_eq];exact .string _
 ·
  rename_i elem a len cap hd;cases vm with
  |none=>
   simp only at h;obtain⟨hh,e1,h0⟩:=R.ai h;clear h;have h:=h0;clear h0;obtain⟨l,e2,h0⟩:=R.ai h;clear h;have h:=h0;clear h0;obtain⟨size,e3,h0⟩:=R.ai h;clear h;have h:=h0;clear h0;have run:∀(a':Option Addr) (cap':Nat),bJ cap≤cap'→∀w:World,(Instr.sliceAt t (.slice a' len cap') lo' hi' none).run tb.P w=
    .ok (.slice (if cap'=l then a' else a'.map (·.add (l*size))) (hh-l) (cap'-l)) w:=by
    intro a' cap' hc w;simp only [Instr.sliceAt,Instr.slice,Sem.run_bind,aD ok hd,Result.andThen_ok,jn (isS:=true) e1 e2 vl vh hc,b7 ok e3,Sem.run_pure]
   have bh:hh≤max len (bJ cap)∧(hh≤len∨hh≤bJ cap):=by
    rcases dK e1 vh with⟨_,_,rfl⟩|⟨_,_,_,_,hm⟩
    ·exact⟨Nat.le_max_left ..,.inl (qao _)⟩
    ·exact⟨qaV hm (Nat.le_max_right ..),.inr hm⟩
   have bl:l≤hh:=by
    rcases dK e2 vl with⟨_,_,rfl⟩|⟨_,_,_,_,hm⟩
    ·omega
    ·exact hm
   cases hx with
   |slN=>
    simp only [R.ok.injEq] at h;subst h;have h0:bJ 0=0:=rfl;refine⟨.slice none 0 0,fun w=>?_,.slN⟩;rw [run none 0 (by rw [h0];omega) w];have:hh=0:=by rw [h0] at bh;omega
    subst this;simp
   |sl hl hk=>
    rename_i b o lc;simp only [hk,qcs] at h;cases hb:qaw (bJ cap) l with
    |true=>
     rw [hb] at h;simp only [cond_true,R.ok.injEq] at h;subst h;have hbl:=beq_true hb;refine⟨_,run _ _ (qao _),?_⟩;rw [if_pos hbl,show bJ cap-l=0 by omega];exact VR.sl hl rfl
    |false=>
     have hbl:=beq_false hb;rw [hb] at h;simp only [cond_false,dV,hk,cond_true,R.ok.injEq] at h;subst h;refine⟨_,run _ _ (qao _),?_⟩;rw [if_neg hbl];rw [D6,←gS];exact VR.sl hl (by rw [jO];exact hk)
   |slX hl hk hc hsz ho hb hlen=>
    rename_i b o o' cap' lc;simp only [hk,qdT,cond_false] at h;cases hf:dV cap size with
    |false=>rw [hf] at h;cases h
    |true=>
     rw [hf] at h;simp only [cond_true,R.ok.injEq] at h;subst h;have hsize:gO cap=size:=by
      unfold dV at hf;rw [hk] at hf;exact beq_true hf
     refine⟨_,run _ _ hc,?_⟩;have hhc:hh≤bJ cap:=by omega
     by_cases hcl:cap'=l
     ·rw [if_pos hcl];have h0:bJ cap-l=0:=by omega
      refine VR.slX hl (by rw [jO];exact hk) (by rw [gS];omega) ?_ (by omega) (by omega) (by rw [gS];omega);rw [rK hk,show cap'-l=0 by omega];have:=qaV (Nat.le_add_right o' (cap'*gO cap)) hsz;omega
     ·rw [if_neg hcl];have e:(some (⟨lc.blk,o',none⟩:Addr)).map (·.add (l*size))=some ⟨lc.blk,o'+l*size,none⟩:=by
       simp only [qa5,cH]
      rw [e];refine VR.slX hl (by rw [jO];exact hk) (by rw [gS];omega) ?_ ?_ (by omega) (by rw [gS];omega)
      ·rw [rK hk,hsize];rw [hsize] at hsz;have hlc:l≤cap':=by omega
       have:(cap'-l)*size+l*size=cap'*size:=by rw [←qcl];congr 1;omega
       omega
      ·intro hp;have:=ho (by omega);show o'+l*size=o+l*size+lc.sh;omega
  |some hv=>
   rename_i mx0 mx1;simp only at h;obtain⟨m,e0,h0⟩:=R.ai h;clear h;have h:=h0;clear h0;obtain⟨hh,e1,h0⟩:=R.ai h;clear h;have h:=h0;clear h0;obtain⟨l,e2,h0⟩:=R.ai h;clear h;have h:=h0;clear h0;obtain⟨size,e3,h0⟩:=R.ai h;clear h;have h:=h0;clear h0;cases vh with
   |none=>simp only at h;cases h
   |some vhh=>
    rename_i hi0 hi1;have run:∀(a':Option Addr) (cap':Nat),bJ cap≤cap'→∀w:World,(Instr.sliceAt t (.slice a' len cap') lo' (some hi1) (some mx1)).run tb.P w=
     .ok (.slice (if m=l then a' else a'.map (·.add (l*size))) (hh-l) (m-l)) w:=by
     intro a' cap' hc w;simp only [Instr.sliceAt,Instr.slice,Sem.run_bind,aD ok hd,Result.andThen_ok,tV (isS:=true) e0 e1 e2 vl vhh hv hc,b7 ok e3,Sem.run_pure]
    have bl:l≤hh∧hh≤m∧m≤bJ cap:=by
     rcases dK e0 (.some hv) with⟨h1,_,_⟩|⟨_,_,_,_,hm⟩
     ·cases h1
     ·rcases dK e1 (.some vhh) with⟨h1,_,_⟩|⟨_,_,_,_,hm1⟩
      ·cases h1
      ·rcases dK e2 vl with⟨_,_,rfl⟩|⟨_,_,_,_,hm2⟩<;>omega
    have fin:∀{b o o':Nat} {lc:Loc},ι b=some lc→(0<bJ cap→o'=o+lc.sh)→o'=o+lc.sh∨m=0→
     (bif qaw m l then(R.ok (Value.slice (some ⟨b,o,none⟩) (hh-l) 0)) else .ok (.slice (some (h_ ⟨b,o,none⟩ (l*size))) (hh-l) (2*(m-l))))= .ok v→
     VR ι v (.slice (if m=l then some ⟨lc.blk,o',none⟩ else(some (⟨lc.blk,o',none⟩:Addr)).map (·.add (l*size))) (hh-l) (m-l))∨o'≠o+lc.sh:=by
     intro b o o' lc hl _ hoo h;by_cases hne:o'=o+lc.sh
     ·left;subst hne;by_cases hml:m=l
      ·have hb:qaw m l=true:=by rw [qcI];exact hml
       rw [hb] at h;simp only [cond_true,R.ok.injEq] at h;subst h;rw [if_pos hml,show m-l=0 by omega];exact VR.sl hl rfl
      ·have hb:qaw m l=false:=by
        cases hx:qaw m l with
        |false=>rfl
        |true=>exact absurd (beq_true hx) hml
       rw [hb] at h;simp only [cond_false,R.ok.injEq] at h;subst h;rw [if_neg hml];rw [D6];have:=VR.sl (ι:=ι) (b:=b) (o:=o+l*size) (len:=hh-l) (k:=2*(m-l)) hl (iT _);rw [gp] at this;exact this
     ·exact .inr hne
    cases hx with
    |slN=>
     simp only [R.ok.injEq] at h;subst h;have h0:bJ 0=0:=rfl;refine⟨.slice none 0 0,fun w=>?_,.slN⟩;rw [run none 0 (by rw [h0];omega) w];rw [h0] at bl;have e1:m=0:=by omega
     have e2:l=0:=by omega
     have e3:hh=0:=by omega
     subst e1 e2 e3;simp
    |sl hl hk=>
     refine⟨_,run _ _ (qao _),?_⟩;rcases fin hl (fun _=>rfl) (.inl rfl) (by simp only [hk,Bool.true_or,cond_true] at h;exact h) with h1|h1
     ·exact h1
     ·exact absurd rfl h1
    |slX hl hk hc hsz ho hb hlen=>
     rename_i b o o' cap' lc;simp only [hk,Bool.false_or] at h;cases hf:dV cap size&&qax 0 (bJ cap) with
     |false=>rw [hf] at h;cases h
     |true=>
      rw [hf] at h;simp only [cond_true] at h;simp only [qaO] at hf;have h0:=cS hf.2;refine⟨_,run _ _ hc,?_⟩;rcases fin hl (fun hp=>ho (by omega)) (.inl (ho (by omega))) h with h1|h1
      ·exact h1
      ·exact absurd (ho (by omega)) h1
 ·
  rename_i len elem a hd;cases hx with
  |ptr hl=>
   rename_i b o lc;cases vm with
   |some _=>simp only at h;cases h
   |none=>
    simp only at h;obtain⟨hh,e1,h0⟩:=R.ai h;clear h;have h:=h0;clear h0;obtain⟨l,e2,h0⟩:=R.ai h;clear h;have h:=h0;clear h0;obtain⟨size,e3,h0⟩:=R.ai h;clear h;have h:=h0;clear h0;have run:∀w:World,(Instr.sliceAt t (.pointer (some ⟨lc.blk,o+lc.sh,none⟩)) lo' hi' none).run tb.P w=
     .ok (.slice (some (if len=l then⟨lc.blk,o+lc.sh,none⟩ else(⟨lc.blk,o+lc.sh,none⟩:Addr).add (l*size))) (hh-l) (len-l)) w:=by
     intro w;simp only [Instr.sliceAt,Instr.sureAddr,Sem.run_bind,aD ok hd,Result.andThen_ok,jn (isS:=false) e1 e2 vl vh (qao _),b7 ok e3,Sem.run_pure]
    refine⟨_,run,?_⟩;cases hb:qaw len l with
    |true=>
     rw [hb] at h;simp only [cond_true,R.ok.injEq] at h;subst h;have hml:=beq_true hb;rw [if_pos hml,show len-l=0 by omega];exact VR.sl hl rfl
    |false=>
     rw [hb] at h;simp only [cond_false,R.ok.injEq] at h;subst h;have hml:=beq_false hb;rw [if_neg hml,cH];have:=VR.sl (ι:=ι) (b:=b) (o:=o+l*size) (len:=hh-l) (k:=2*(len-l)) hl (iT _);rw [gp,show o+l*size+lc.sh=o+lc.sh+l*size by omega] at this;exact this
 ·cases h
end
section
variable {tb:bO} (ok:cC tb) {ι:de}
include ok in
theorem tD {t:TypeId} {x x' v:Value} {i:Nat} (h:av tb t x i= .ok v) (hx:VR ι x x'):
 ∃v',(∀w:World,(Instr.fieldAt t x' i).run tb.P w= .ok v' w)∧VR ι v v':=by
 unfold av at h;split at h
 ·rename_i fs a hd;cases hx with
  |ptr hl=>
   rename_i b o lc;simp only at h;split at h
   ·rename_i f _ hf;obtain⟨n,e1,h1⟩:=R.ai h;cases hb:qaw n 0 with
    |true=>rw [hb] at h1;cases h1
    |false=>
     rw [hb] at h1;simp only [cond_false,R.ok.injEq] at h1;subst h1;refine⟨.pointer (some ⟨lc.blk,o+f.offset+lc.sh,none⟩),fun w=>?_,?_⟩
     ·have hf':fs[i]?=some f:=by rw [←qaU];exact hf
      simp only [Instr.fieldAt,Sem.run_bind,aD ok hd,Result.andThen_ok,hf',Instr.sureAddr,Sem.run_pure,fieldPlace,b7 ok e1,if_neg (beq_false hb),cH];rw [qcd]
     ·exact VR.ptr (o:=o+f.offset) hl
   ·cases h
 ·cases h
include ok in
theorem mB {t:TypeId} {x x' y y' v:Value} (h:aU tb t x y= .ok v) (hx:VR ι x x') (hy:VR ι y y'):
 ∃v',(∀w:World,(Instr.indexAt t x' y').run tb.P w= .ok v' w)∧VR ι v v':=by
 unfold aU at h;split at h
 ·cases h
 ·rename_i i hi;obtain⟨k,rfl,rfl⟩:=iA hi hy;have h0:(0:Int)≤qaW i:=qcw _;split at h
  ·rename_i len elem a hd;cases hx with
   |ptr hl=>
    rename_i b o lc;simp only at h;cases hb:qax i len with
    |false=>rw [hb] at h;cases h
    |true=>
     rw [hb] at h;simp only [cond_true] at h;obtain⟨n,e1,h1⟩:=R.ai h;simp only [R.ok.injEq] at h1;subst h1;have hlt:=cS hb;refine⟨.pointer (some ⟨lc.blk,o+i*n+lc.sh,none⟩),fun w=>?_,VR.ptr (o:=o+i*n) hl⟩;have hc:(0:Int)≤qaW i∧qaW i<(len:Int):=⟨h0,by simp only [qa2];omega⟩;simp only [Instr.indexAt,asIntOf,Sem.run_bind,Sem.run_pure,aD ok hd,Result.andThen_ok,Instr.sureAddr,if_pos hc,b7 ok e1,cH];show Result.ok (Value.pointer (some ⟨lc.blk,o+lc.sh+i*n,none⟩)) w=_;rw [qcd]
  ·rename_i elem a len cap hd;have core:∀{b o o' cap':Nat} {lc:Loc},ι b=some lc→(i<len→o'=o+lc.sh)→a=⟨b,o,none⟩→
    ∃v',(∀w:World,(Instr.indexAt t (.slice (some ⟨lc.blk,o',none⟩) len cap') (.int k (.ofNat i))).run tb.P w= .ok v' w)∧VR ι v v':=by
    intro b o o' cap' lc hl ho ha;subst ha;simp only at h;cases hb:qax i len with
    |false=>rw [hb] at h;cases h
    |true=>
     rw [hb] at h;simp only [cond_true] at h;obtain⟨n,e1,h1⟩:=R.ai h;simp only [R.ok.injEq] at h1;subst h1;have hlt:=cS hb;refine⟨.pointer (some ⟨lc.blk,o+i*n+lc.sh,none⟩),fun w=>?_,VR.ptr (o:=o+i*n) hl⟩;have hc:(0:Int)≤qaW i∧qaW i<(len:Int):=⟨h0,by simp only [qa2];omega⟩;simp only [Instr.indexAt,asIntOf,Sem.run_bind,Sem.run_pure,aD ok hd,Result.andThen_ok,if_pos hc,b7 ok e1,cH];show Result.ok (Value.pointer (some ⟨lc.blk,o'+i*n,none⟩)) w=_;rw [ho hlt,qcd]
   cases hx with
   |sl hl hk=>exact core hl (fun _=>rfl) rfl
   |slX hl hk hc hsz ho hb hlen=>exact core hl (fun hlt=>ho (by omega)) rfl
  ·cases h
include ok in
theorem fT {t:TypeId} {cs:List Value} {cs':Array Value} {off:Nat} {v:Value} (h:jr tb t cs off= .ok v) (hc:dv ι cs cs'.toList):
 ∃v',(∀w:World,(part t cs' off).run tb.P w= .ok v' w)∧VR ι v v':=by
 unfold jr at h;split at h
 ·cases h
 ·rename_i d hd;cases ha:bQ d with
  |true=>
   rw [ha] at h;simp only [cond_true] at h;obtain⟨n,e1,h1⟩:=R.ai h;simp only [R.ok.injEq] at h1;subst h1;refine⟨.agg (cs'.extract off (off+n)),fun w=>?_,?_⟩
   ·simp only [part,Sem.run_bind,pM ok hd,ha,Result.andThen_ok,if_true,b7 ok e1,Sem.run_pure]
   ·refine .agg ?_;have:(cs'.extract off (off+n)).toList=(cs'.toList.drop off).take n:=by
     simp [Array.toList_extract,List.extract_eq_take_drop]
    rw [this];exact(hc.drop off).take n
  |false=>
   rw [ha] at h;simp only [cond_false] at h;split at h
   ·rename_i x hx;simp only [R.ok.injEq] at h;subst h;obtain⟨x',e,r⟩:=hc.get _ _ hx;have e':cs'[off]?=some x':=by rw [←qaU];exact e
    refine⟨x',fun w=>?_,r⟩;simp only [part,Sem.run_bind,pM ok hd,ha,Result.andThen_ok,qaI,if_false,e',Sem.run_pure]
   ·cases h
include ok in
theorem CW {t:TypeId} {x x' v:Value} {i:Nat} (h:tE tb t x i= .ok v) (hx:VR ι x x'):
 ∃v',(∀w:World,(Instr.field t x' i).run tb.P w= .ok v' w)∧VR ι v v':=by
 unfold tE at h;split at h
 ·rename_i fs cs hd;cases hx with
  |agg hc=>
   split at h
   ·rename_i f hf;obtain⟨v',e,r⟩:=fT ok h hc;refine⟨v',fun w=>?_,r⟩;have hf':fs[i]?=some f:=by rw [←qaU];exact hf
    simp only [Instr.field,Sem.run_bind,aD ok hd,Result.andThen_ok,hf',asAgg,Sem.run_pure,e]
   ·cases h
 ·cases h
include ok in
theorem C5 {t:TypeId} {x x' y y' v:Value} (h:nf tb t x y= .ok v) (hx:VR ι x x') (hy:VR ι y y'):
 ∃v',(∀w:World,(Instr.index t x' y').run tb.P w= .ok v' w)∧VR ι v v':=by
 unfold nf at h;split at h
 ·cases h
 ·rename_i i hi;obtain⟨k,rfl,rfl⟩:=iA hi hy;have h0:(0:Int)≤qaW i:=qcw _;split at h
  ·rename_i len elem cs hd;cases hx with
   |agg hcs=>
    cases hb:qax i len with
    |false=>rw [hb] at h;cases h
    |true=>
     rw [hb] at h;simp only [cond_true] at h;obtain⟨n,e1,h1⟩:=R.ai h;obtain⟨v',e,r⟩:=fT ok h1 hcs;have hlt:=cS hb;have hc:(0:Int)≤qaW i∧qaW i<(len:Int):=⟨h0,by simp only [qa2];omega⟩;refine⟨v',fun w=>?_,r⟩;simp only [Instr.index,asIntOf,Sem.run_bind,Sem.run_pure,aD ok hd,Result.andThen_ok,if_pos hc,b7 ok e1];exact e w
  ·rename_i s hd;cases hx;split at h
   ·rename_i b hb;simp only [R.ok.injEq] at h;subst h;refine⟨_,fun w=>?_,.int _ _⟩;have hs:s[(qaW i).toNat]?=some b:=by
     show s[i]?=some b;have hlt:i<s.data.toList.length:=by
      rcases qaZ i s.data.toList.length with h|h
      ·exact h
      ·rw [qbc h] at hb;cases hb
     have hlt':i<s.size:=by rw [size_data];exact hlt
     rw [getElem?_pos s i hlt'];rw [qan hlt] at hb;rw [←hb];rfl
    simp only [Instr.index,asIntOf,Sem.run_bind,Sem.run_pure,aD ok hd,Result.andThen_ok,if_pos h0,hs];rfl
   ·cases h
  ·cases h
theorem CZ (vs:List Value):∀(off:Nat) (cells:Array Value) (j:Nat),off+j+vs.length≤cells.size→
 ((vs.zipIdx j).foldl (fun cs (p:Value×Nat)=>cs.setIfInBounds (off+p.2) p.1) cells).toList=o_ cells.toList (off+j) vs:=by
 induction vs with
 |nil=>intro off cells j h;simp [o_]
 |cons v vs ih=>
  intro off cells j h;simp only [qaA] at h;rw [List.zipIdx_cons,qbu,ih off _ (j+1) (by simp;omega)];simp only [o_,Array.toList_setIfInBounds,qaA];rw [List.take_set,List.drop_set,if_pos (by omega)];have e1:(cells.toList.take (off+(j+1))).set (off+j) v=cells.toList.take (off+j)++[v]:=by
   have hmin:min (off+j) cells.size=off+j:=by omega
   rw [show off+(j+1)=off+j+1 by omega,qaC (by simp;omega),List.set_append];simp [hmin]
  rw [e1,show off+(j+1)+vs.length=off+j+(vs.length+1) by omega];simp
theorem Iv {a a' b b':List Value} (off:Nat) (ha:dv ι a a') (hb:dv ι b b'):dv ι (o_ a off b) (o_ a' off b'):=by
 unfold o_;rw [hb.length];exact((ha.take off).append hb).append (ha.drop _)
theorem k_ {pl pl':Nat→Option (Nat×Nat)} (hp:∀i x,pl i=some x→pl' i=some x):∀{parts parts':List (Nat×Value)} {cells:List Value} {cells':Array Value} {r:List Value},xE pl cells parts=some r→
 dv ι cells cells'.toList→Ui ι parts parts'→∃r',Instr.fill pl' cells' parts'=some r'∧dv ι r r'.toList
 | [],_,cells,cells',r,h,hc,.nil=>by simp only [xE,qaX] at h;subst h;exact⟨cells',rfl,hc⟩
 |(i,v)::rest,_,cells,cells',r,h,hc,.cons hv ht=>by
  rename_i v' rest';unfold xE at h;split at h
  ·cases h
  ·rename_i off size hpl;have hlen:=hv.cells.length;simp only [qb5] at hlen;have hlc:=hc.length;simp only [qb5] at hlc;cases hb:(qaw v.cells.toList.length size&&qaq (off+size) cells.length) with
   |false=>rw [hb] at h;cases h
   |true=>
    rw [hb] at h;simp only [cond_true] at h;simp only [qaO] at hb;have h1:=beq_true hb.1;have h2:=cR hb.2;simp only [qb5] at h1;unfold Instr.fill;rw [hp i _ hpl];simp only
    rw [if_neg]
    ·have hs:=Iv (ι:=ι) off hc hv.cells;have hf:=CZ v'.cells.toList off cells' 0 (by simp;omega);have e:(v'.cells.zipIdx.foldl (fun cs (p:Value×Nat)=>cs.setIfInBounds (off+p.2) p.1) cells').toList=o_ cells'.toList off v'.cells.toList:=by
      rw [←Array.foldl_toList,Array.toList_zipIdx];exact hf
     refine k_ hp h ?_ ht;rw [show(Array.foldl (fun cs x=>match x with|(c,j)=>cs.setIfInBounds (off+j) c) cells' v'.cells.zipIdx)=v'.cells.zipIdx.foldl (fun cs (p:Value×Nat)=>cs.setIfInBounds (off+p.2) p.1) cells' from rfl,e];exact hs
    ·simp only [qeC,decide_eq_true_eq,ne_eq];omega
include ok in
theorem qv:∀{fs:List Field} {l:List (Nat×Nat)},sb tb fs= .ok l→∀w:World,(fs.mapM fun f=>do pure (f.offset,←sizeOf f.type):Sem (List (Nat×Nat))).run tb.P w= .ok l w
 | [],l,h,w=>by simp only [sb,R.ok.injEq] at h;subst h;rfl
 |f::fs,l,h,w=>by
  unfold sb at h;obtain⟨n,e1,h1⟩:=R.ai h;obtain⟨l',e2,h2⟩:=R.ai h1;simp only [R.ok.injEq] at h2;subst h2;have:=qv e2 w;simp only [List.mapM_cons,Sem.run_bind,Sem.run_pure,b7 ok e1,Result.andThen_ok,this]
include ok in
theorem Ci {t:TypeId} {parts parts':List (Nat×Value)} {v:Value} (h:ct tb t parts= .ok v) (hp:Ui ι parts parts'):
 ∃v',(∀w:World,(Instr.build t parts'.toArray).run tb.P w= .ok v' w)∧VR ι v v':=by
 unfold ct at h;obtain⟨zero,hz,h0⟩:=R.ai h;clear h;have hzr:=mT ok hz;obtain⟨_,_,_,hzv⟩:=iD hz;have hzc:=(hzv ι).cells;split at h0
 ·rename_i fs hd;obtain⟨places,hpl,h1⟩:=R.ai h0;clear h0;split at h1
  ·rename_i cells hf;simp only [R.ok.injEq] at h1;subst h1;obtain⟨r',e,hr⟩:=k_ (pl':=fun i=>places.toArray[i]?) (fun i x hx=>by simpa using hx) hf hzc hp;refine⟨.agg r',fun w=>?_,.agg hr⟩;have hm:(fs.mapM fun f=>do pure (f.offset,←sizeOf f.type):Sem (Array (Nat×Nat))).run tb.P w= .ok places.toArray w:=by
    rw [Array.mapM_eq_mapM_toList];simp only [Sem.run_map,qv ok hpl w,Result.andThen_ok]
   simp only [Instr.build,Sem.run_bind,hzr,Result.andThen_ok,aD ok hd,hm];simp only [e,Sem.run_pure]
  ·cases h1
 ·rename_i len elem hd;obtain⟨n,e1,h1⟩:=R.ai h0;clear h0;split at h1
  ·rename_i cells hf;simp only [R.ok.injEq] at h1;subst h1;obtain⟨r',e,hr⟩:=k_ (pl':=fun i=>some (i*n,n)) (fun i x hx=>hx) hf hzc hp;refine⟨.agg r',fun w=>?_,.agg hr⟩;simp only [Instr.build,Sem.run_bind,hzr,Result.andThen_ok,aD ok hd,b7 ok e1];simp only [e,Sem.run_pure]
  ·cases h1
 ·cases h0
end
section
variable {tb:bO} (ok:cC tb) {ι:de}
include ok in
theorem CH {s d:TypeId} {x x' v:Value} (h:gi tb s d x= .ok v) (hx:VR ι x x'):∃v',(∀w:World,(convert s d x').run tb.P w= .ok v' w)∧VR ι v v':=by
 unfold gi at h;split at h
 ·rename_i ds k k' n hs hd;cases hx;simp only [R.ok.injEq] at h;subst h;refine⟨_,fun w=>?_,.int _ _⟩;simp only [convert,Sem.run_bind,aD ok hs,aD ok hd,Result.andThen_ok,eT];rfl
 ·rename_i ds s hs hd;cases hx;simp only [R.ok.injEq] at h;subst h;refine⟨_,fun w=>?_,.string _⟩;simp only [convert,Sem.run_bind,aD ok hs,aD ok hd,Result.andThen_ok];rfl
 ·cases h
include ok in
theorem E8 {t:TypeId} {ts:Array TypeId} {x x' v:Value} {args:Array Value} {rt:TypeId} (h:E7 tb t x= .ok v) (hx:VR ι x x') (ht:ts[0]?=some t) (ha:args[0]?=some x'):
 ∃v',(∀w:World,(Builtin.len_ ts rt args).run tb.P w= .ok v' w)∧VR ι v v':=by
 unfold E7 at h;split at h
 ·rename_i s hd;cases hx;simp only [R.ok.injEq] at h;subst h;refine⟨_,fun w=>?_,.int _ _⟩;simp only [Builtin.len_,ht,ha,Sem.run_bind,aD ok hd,Result.andThen_ok,size_data];rfl
 ·rename_i n e hd;simp only [R.ok.injEq] at h;subst h;refine⟨_,fun w=>?_,.int _ _⟩;simp only [Builtin.len_,ht,ha,Sem.run_bind,aD ok hd,Result.andThen_ok];cases x'<;>rfl
 ·rename_i e a n c hd;simp only [R.ok.injEq] at h;subst h;cases hx<;>refine⟨_,fun w=>?_,.int _ _⟩<;>simp only [Builtin.len_,ht,ha,Sem.run_bind,aD ok hd,Result.andThen_ok]<;>rfl
 ·rename_i e hd;simp only [R.ok.injEq] at h;subst h;cases hx;refine⟨_,fun w=>?_,.int _ _⟩;simp only [Builtin.len_,ht,ha,Sem.run_bind,aD ok hd,Result.andThen_ok];rfl
 ·cases h
include ok in
theorem En {t:TypeId} {ts:Array TypeId} {x x' v:Value} {args:Array Value} {rt:TypeId} (h:Nu tb t x= .ok v) (hx:VR ι x x') (ht:ts[0]?=some t) (ha:args[0]?=some x'):
 ∃v',(∀w:World,(Builtin.cap_ ts rt args).run tb.P w= .ok v' w)∧VR ι v v':=by
 unfold Nu at h;split at h
 ·rename_i n e hd;simp only [R.ok.injEq] at h;subst h;refine⟨_,fun w=>?_,.int _ _⟩;simp only [Builtin.cap_,ht,ha,Sem.run_bind,aD ok hd,Result.andThen_ok];cases x'<;>rfl
 ·rename_i e a n c hd;cases hx with
  |slN=>
   have h':R.ok (Value.int .i64 (.ofNat 0))=R.ok v:=h;cases h';refine⟨.int .i64 (.ofNat 0),fun w=>?_,.int _ _⟩;simp only [Builtin.cap_,ht,ha,Sem.run_bind,aD ok hd,Result.andThen_ok];rfl
  |sl hl hk=>
   rw [hk] at h;simp only [cond_true,R.ok.injEq] at h;subst h;refine⟨_,fun w=>?_,.int _ _⟩;simp only [Builtin.cap_,ht,ha,Sem.run_bind,aD ok hd,Result.andThen_ok];rfl
  |slX hl hk hc hsz ho hb hlen=>
   rw [hk] at h;simp only [cond_false,R.ok.injEq] at h;subst h;refine⟨_,fun w=>?_,.least hc hb⟩;simp only [Builtin.cap_,ht,ha,Sem.run_bind,aD ok hd,Result.andThen_ok];rfl
 ·cases h
variable {x' y:Value}
theorem Fc {x y':Value} (h:ON x y= .ok v) (hx:VR ι x x') (hy:VR ι y y'):∃v',(∀(P:Program) (w:World),(Builtin.min2 x' y').run P w= .ok v' w)∧VR ι v v':=by
 unfold ON at h;split at h
 ·cases hx;cases hy;rename_i k a k' b;cases hk:eD k k' with
  |false=>rw [hk] at h;cases h
  |true=>
   rw [hk] at h;simp only [cond_true,R.ok.injEq] at h;subst h;refine⟨_,fun P w=>?_,.int _ _⟩;simp only [Builtin.min2,Sem.run_pure,pK];by_cases hc:b<a<;>simp [hc]
 ·cases h
theorem Fb {x y':Value} (h:OM x y= .ok v) (hx:VR ι x x') (hy:VR ι y y'):∃v',(∀(P:Program) (w:World),(Builtin.max2 x' y').run P w= .ok v' w)∧VR ι v v':=by
 unfold OM at h;split at h
 ·cases hx;cases hy;rename_i k a k' b;cases hk:eD k k' with
  |false=>rw [hk] at h;cases h
  |true=>
   rw [hk] at h;simp only [cond_true,R.ok.injEq] at h;subst h;refine⟨_,fun P w=>?_,.int _ _⟩;simp only [Builtin.max2,Sem.run_pure,pK];by_cases hc:a<b<;>simp [hc]
 ·cases h
theorem oO {f:Value→Value→R Value} {g:Value→Value→Sem Value}
 (hf:∀{x x' y y' v:Value},f x y= .ok v→VR ι x x'→VR ι y y'→∃v',(∀(P:Program) (w:World),(g x' y').run P w= .ok v' w)∧VR ι v v'):
 ∀{l l':List Value} {x x' v:Value},AL f x l= .ok v→VR ι x x'→dv ι l l'→∃v',(∀(P:Program) (w:World),(l'.foldlM g x').run P w= .ok v' w)∧VR ι v v'
 | [],_,x,x',v,h,hx,.nil=>by simp only [AL,R.ok.injEq] at h;subst h;exact⟨x',fun _ _=>rfl,hx⟩
 |y::l,_,x,x',v,h,hx,.cons hy ht=>by
  unfold AL at h;obtain⟨z,h1,h2⟩:=R.ai h;obtain⟨z',e1,r1⟩:=hf h1 hx hy;obtain⟨v',e2,r2⟩:=oO hf h2 r1 ht;refine⟨v',fun P w=>?_,r2⟩;simp only [List.foldlM_cons,Sem.run_bind,e1,Result.andThen_ok,e2]
variable {l:List Value}
theorem dv.cons_inv {l':List Value} (h:dv ι (v::l) l'):∃v' t',l'=v'::t'∧VR ι v v'∧dv ι l t':=by
 cases h with
 |cons h ht=>exact⟨_,_,rfl,h,ht⟩
include ok in
theorem vc {b:Builtin} {ts:Array TypeId} {cs:Array Bool} {rt:TypeId} {args:List Value} {args':Array Value} {v:Value} (h:aN tb b ts.toList args= .ok v) (ha:dv ι args args'.toList):
 ∃v',(∀w:World,(builtin b ts rt cs args').run tb.P w= .ok (.value v') w)∧VR ι v v':=by
 have wrap:∀{s:Sem Value},(∃v',(∀w:World,s.run tb.P w= .ok v' w)∧VR ι v v')→∃v',(∀w:World,(do pure (Next.value (←s)):Sem Next).run tb.P w= .ok (.value v') w)∧VR ι v v':=by
  rintro s ⟨v',e,r⟩;exact⟨v',fun w=>by simp only [Sem.run_bind,e,Result.andThen_ok,Sem.run_pure],r⟩
 have first:∀{t:TypeId} {l:List TypeId},ts.toList=t::l→ts[0]?=some t:=by
  intro t l e;rw [←qaU,e];rfl
 have firstA:∀{x:Value} {l:List Value},args'.toList=x::l→args'[0]?=some x:=by
  intro t l e;rw [←qaU,e];rfl
 unfold aN at h;split at h
 ·rename_i t l x xs hts;obtain⟨x',t',e,hx,_⟩:=ha.cons_inv;exact wrap (E8 ok h hx (first hts) (firstA e))
 ·rename_i t l x xs hts;obtain⟨x',t',e,hx,_⟩:=ha.cons_inv;exact wrap (En ok h hx (first hts) (firstA e))
 ·obtain⟨x',t',e,hx,ht⟩:=ha.cons_inv;obtain⟨v',e2,r⟩:=oO (g:=Builtin.min2) (fun h a b=>Fc h a b) h hx ht;exact wrap ⟨v',fun w=>by simp only [Builtin.min_,e];exact e2 _ w,r⟩
 ·obtain⟨x',t',e,hx,ht⟩:=ha.cons_inv;obtain⟨v',e2,r⟩:=oO (g:=Builtin.max2) (fun h a b=>Fb h a b) h hx ht;exact wrap ⟨v',fun w=>by simp only [Builtin.max_,e];exact e2 _ w,r⟩
 ·rename_i a len c;obtain⟨x',t',e,hx,ht⟩:=ha.cons_inv;cases ht;have e':args'= #[x']:=by apply qbT;exact e
  cases hc:qax 0 (bJ c) with
  |false=>rw [hc] at h;cases h
  |true=>
   rw [hc] at h;simp only [cond_true,R.ok.injEq] at h;subst h;have h0:=cS hc;refine wrap ?_;cases hx with
   |sl hl hk=>
    refine⟨_,fun w=>?_,.ptr hl⟩;subst e';show Sem.run tb.P (if bJ c≠0 then pure (Value.pointer (some _)) else _) w=_;rw [if_pos (by omega:bJ c≠0)];rfl
   |slX hl hk hcc hsz ho hb hlen=>
    rename_i cap' lc;refine⟨_,fun w=>?_,.ptr hl⟩;subst e';show Sem.run tb.P (if cap'≠0 then pure (Value.pointer (some _)) else _) w=_;rw [if_pos (by omega:cap'≠0),ho (by omega)];rfl
 ·obtain⟨x',t',e,hx,ht⟩:=ha.cons_inv;cases ht;have e':args'= #[x']:=by apply qbT;exact e
  simp only [R.ok.injEq] at h;subst h;refine wrap ?_;cases hx;subst e';exact⟨_,fun w=>rfl,.ptrN⟩
 ·cases h
include ok in
theorem zM {x x' v:Value} {xt t:TypeId} {c:Bool} (h:rA tb x t c= .ok v) (hx:VR ι x x'):
 ∃v',(∀w:World,(Instr.typeAssert x' xt t c).run tb.P w= .ok v' w)∧VR ι v v':=by
 have fails:∀{a b:Option TypeId} {m:String},(bif c then(bS tb t).bind fun z=>.ok (.tuple ⟨[z,.bool false]⟩) else .no 99:R Value)= .ok v→
  ∃v',(∀w:World,(do if c then pure (.tuple #[←zeroValue t,.bool false]) else runtimePanic (.typeAssertion a b t m):Sem Value).run tb.P w= .ok v' w)∧VR ι v v':=by
  intro a b m h;cases c with
  |false=>cases h
  |true=>
   simp only [cond_true] at h;obtain⟨z,hz,h1⟩:=R.ai h;simp only [R.ok.injEq] at h1;subst h1;obtain⟨_,_,_,hzv⟩:=iD hz;refine⟨.tuple ⟨[z,.bool false]⟩,fun w=>?_,.tuple (.cons (hzv ι) (.cons (.bool _) .nil))⟩;simp only [if_true,Sem.run_bind,mT ok hz,Result.andThen_ok,Sem.run_pure]
 have holds:∀{y y':Value},VR ι y y'→(R.ok (bif c then Value.tuple ⟨[y,.bool true]⟩ else y))= .ok v→
  VR ι v (if c then .tuple #[y',.bool true] else y'):=by
  intro y y' hy h;simp only [R.ok.injEq] at h;subst h;cases c with
  |false=>exact hy
  |true=>exact .tuple (.cons hy (.cons (.bool _) .nil))
 unfold rA at h;split at h
 ·rename_i ms hd;cases hx;obtain⟨v',e,r⟩:=fails h;refine⟨v',fun w=>?_,r⟩;simp only [Instr.typeAssert,Sem.run_bind,aD ok hd,Result.andThen_ok];exact e w
 ·rename_i want u y hd;cases hx with
  |iface hy=>
   split at h
   ·rename_i i hi;split at h
    ·rename_i hm;refine⟨_,fun w=>?_,holds (.iface hy) h⟩;simp only [Instr.typeAssert,Sem.run_bind,aD ok hd,fP ok hi,Result.andThen_ok,hm];rfl
    ·rename_i m hm;obtain⟨v',e,r⟩:=fails h;refine⟨v',fun w=>?_,r⟩;simp only [Instr.typeAssert,Sem.run_bind,aD ok hd,fP ok hi,Result.andThen_ok,hm];exact e w
   ·cases h
 ·rename_i d hne hd;cases hx;obtain⟨v',e,r⟩:=fails h;refine⟨v',fun w=>?_,r⟩;simp only [Instr.typeAssert,Sem.run_bind,aD ok hd,Result.andThen_ok];cases d<;>first|exact e w|exact absurd rfl (hne _)
 ·rename_i d u y hne hd;cases hx with
  |iface hy=>
   cases hb:qaw u t with
   |true=>
    obtain rfl:=beq_true hb;rw [hb] at h;simp only [cond_true] at h;refine⟨_,fun w=>?_,holds hy h⟩;simp only [Instr.typeAssert,Sem.run_bind,aD ok hd,Result.andThen_ok];cases d<;>first|(simp only [if_true];rfl)|exact absurd rfl (hne _)
   |false=>
    have hb':=beq_false hb;rw [hb] at h;simp only [cond_false] at h;obtain⟨v',e,r⟩:=fails h;refine⟨v',fun w=>?_,r⟩;simp only [Instr.typeAssert,Sem.run_bind,aD ok hd,Result.andThen_ok];cases d<;>first|(simp only [if_neg hb'];exact e w)|exact absurd rfl (hne _)
 ·cases h
 ·cases h
theorem Fh {fn:Fn} (h:∀l,fn= .yield l→False):Fg fn:=by
 cases fn<;>first|trivial|exact(h _ rfl).elim
include ok in
theorem Bl {n:Nat} {τ:T Value} {a:Act} {o:Oper} {v:Value} (h:tQ tb τ o.op= .ok v) (ht:TR ι n τ a.tmps):
 ∃v',(∀w:World,(execOp a.eval o).run tb.P w= .ok (.value v') w)∧VR ι v v':=by
 have wrap:∀{s:Sem Value},(∃v',(∀w:World,s.run tb.P w= .ok v' w)∧VR ι v v')→∃v',(∀w:World,(do pure (Next.value (←s)):Sem Next).run tb.P w= .ok (.value v') w)∧VR ι v v':=by
  rintro s ⟨v',e,r⟩;exact⟨v',fun w=>by simp only [Sem.run_bind,e,Result.andThen_ok,Sem.run_pure],r⟩
 unfold tQ at h;split at h<;>rename_i hop<;>simp only [execOp,hop]
 ·exact⟨_,fun w=>rfl,aS h ht⟩
 ·exact⟨_,fun w=>rfl,aS h ht⟩
 ·rename_i c x y;obtain⟨cv,hc,h1⟩:=R.ai h;have hcr:=aS hc ht;split at h1
  ·generalize a.eval c=cv' at hcr⊢;cases hcr;refine⟨a.eval x,fun w=>?_,aS h1 ht⟩;simp only [Sem.run_bind,asBool,Sem.run_pure,Result.andThen_ok,if_true]
  ·generalize a.eval c=cv' at hcr⊢;cases hcr;refine⟨a.eval y,fun w=>?_,aS h1 ht⟩;simp only [Sem.run_bind,asBool,Sem.run_pure,Result.andThen_ok,qaI,if_false]
  ·cases h1
 ·rename_i ty ps;obtain⟨vs,h1,h2⟩:=R.ai h;have:=tC h1 ht;refine wrap ?_;obtain⟨v',e,r⟩:=Ci ok h2 this;refine⟨v',fun w=>?_,r⟩;rw [←e w];congr 2;apply qbT;simp
 ·obtain⟨x,h1,h2⟩:=R.ai h;obtain⟨v',e,r⟩:=Mx h2 (aS h1 ht);exact wrap ⟨v',fun w=>e _ w,r⟩
 ·obtain⟨x,h1,h2⟩:=R.ai h;have hx:=aS h1 ht;split at h2
  ·cases h2
  ·rename_i d hne hd;simp only [R.ok.injEq] at h2;subst h2;refine wrap ⟨_,fun w=>?_,.iface hx⟩;simp only [Instr.makeInterface,Sem.run_bind,aD ok hd,Result.andThen_ok];cases d<;>first|rfl|exact absurd rfl (hne _)
  ·cases h2
 ·obtain⟨x,h1,h2⟩:=R.ai h;obtain⟨y,h3,h4⟩:=R.ai h2;have hx:=ik h1 ht;have hy:=ik h3 ht;split at h4
  ·cases h4
  ·rename_i hfn;simp only [R.ok.injEq] at h4;subst h4;refine wrap ⟨_,fun w=>rfl,.func ?_ (by simpa using hx) (by simpa using hy)⟩;exact Fh hfn
 ·obtain⟨x,h1,h2⟩:=R.ai h;exact wrap (tD ok h2 (aS h1 ht))
 ·obtain⟨x,h1,h2⟩:=R.ai h;exact wrap (CW ok h2 (aS h1 ht))
 ·obtain⟨x,h1,h2⟩:=R.ai h;obtain⟨y,h3,h4⟩:=R.ai h2;exact wrap (mB ok h4 (aS h1 ht) (aS h3 ht))
 ·obtain⟨x,h1,h2⟩:=R.ai h;obtain⟨y,h3,h4⟩:=R.ai h2;exact wrap (C5 ok h4 (aS h1 ht) (aS h3 ht))
 ·rename_i xo i;obtain⟨x,h1,h2⟩:=R.ai h;have hx:=aS h1 ht;split at h2
  ·split at h2
   ·rename_i vs u hu;simp only [R.ok.injEq] at h2;subst h2;generalize a.eval xo=xv' at hx⊢;cases hx with
    |tuple hvs=>
     rename_i vs';obtain⟨u',e2,r⟩:=hvs.get _ _ hu;refine wrap ⟨u',fun w=>?_,r⟩;have:vs'[i]?=some u':=by rw [←qaU];exact e2
     simp only [Instr.extract,this,Sem.run_pure]
   ·cases h2
  ·cases h2
 ·obtain⟨x,h1,h2⟩:=R.ai h;obtain⟨lo,h3,h4⟩:=R.ai h2;obtain⟨hi,h5,h6⟩:=R.ai h4;obtain⟨mx,h7,h8⟩:=R.ai h6;exact wrap (DC ok h8 (aS h1 ht) (pB h3 ht) (pB h5 ht) (pB h7 ht))
 ·obtain⟨x,h1,h2⟩:=R.ai h;exact wrap (zM ok h2 (aS h1 ht))
 ·obtain⟨x,h1,h2⟩:=R.ai h;have hx:=aS h1 ht;rename_i xo;generalize a.eval xo=xv' at hx⊢;have hx0:=hx;split at h2<;>simp only [R.ok.injEq,reduceCtorEq] at h2<;>subst h2<;>cases hx<;>exact⟨_,fun w=>rfl,hx0⟩
 ·rename_i op ty x y yt;obtain⟨xv,h1,h2⟩:=R.ai h;obtain⟨yv,h3,h4⟩:=R.ai h2;obtain⟨v',e,r⟩:=GG ok h4 (aS h1 ht) (aS h3 ht);refine wrap ⟨v',fun w=>?_,r⟩;simp only [Sem.run_bind,zS h4 (aS h1 ht) (aS h3 ht),Result.andThen_ok,e]
 ·obtain⟨x,h1,h2⟩:=R.ai h;exact wrap (CH ok h2 (aS h1 ht))
 ·rename_i c;split at h
  ·rename_i b hb;obtain⟨args,h1,h2⟩:=R.ai h;have ha:=ik h1 ht;obtain⟨v',e,r⟩:=vc ok (cs:=c.args.map fun| .const _=>true|_=>false) (rt:=o.type) (args':=c.args.map a.eval) h2 (by simpa using ha);refine⟨v',fun w=>?_,r⟩;simp only [resolve,hb,Sem.run_bind,Sem.run_pure,Result.andThen_ok,invoke];exact e w
  ·cases h
 ·cases h
end
end Go.Am
end
