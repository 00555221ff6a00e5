/- The abstract machine, the walk of the law and its plain laws, made small by a program; part 0: no conditions but those in each theorem. -/
import Derived.Calls
import Derived.Laws.Sem
set_option maxHeartbeats 16000000
set_option maxRecDepth 100000
set_option linter.unusedSimpArgs false
set_option linter.unusedVariables false
noncomputable section
open Nat renaming ble→X5,le_refl→X9,beq→Yc,blt→Ye,blt_eq→Yl,eq_of_beq_eq_true→Yn,lt_of_lt_of_le→Yt,le_trans→YC,lt_or_ge→YE,shiftRight_eq_div_pow→YX,pow_le_pow_right→Y2,lt_of_le_of_lt→Y5,mod_lt→Y8,mod_eq_of_lt→Zb,lt_succ_self→Zu,xor_lt_two_pow→ZG,not_lt_zero→ZR,mod→ZU,add_right_comm→Z0,eq_of_testBit_eq→Z6,add_mul→qaa,beq_eq→qab,div→qas,testBit_xor→qaJ,succ→qaP,ble_eq→qaT,testBit_lt_two_pow→qbh,ne_of_beq_eq_false→qbi,pow_succ→qbr,shiftLeft_eq→qbI,le_total→qbT,shiftRight→qch
open List renaming getElem?_eq_getElem→X6,take_succ_eq_append_getElem→Yd,length_cons→Yf,length_nil→Ys,replicate→YP,getElem?_eq_none→YR,drop_eq_getElem_cons→Y3,all_eq_true→Ze,foldl_cons→Zh,drop_eq_nil_of_le→qbj
open Bool renaming false_eq_true→Yj,and_eq_true→Yq,eq_iff_iff→Zr,true_and→ZK,false_and→qa1
open Array renaming getElem?_toList→Yu,ext'→Zz,length_toList→Z8,getElem?_setIfInBounds_ne→qa7,getD_eq_getD_getElem?→qbw
open Int renaming ofNat→Yv,ofNat_eq_natCast→YD,natCast_nonneg→qai
open Option.some renaming injEq→YB,inj→YJ
open Option renaming map_some→YI,isSome_none→Zl
open UInt8 renaming ofNat→Zc,toNat_inj→ZS,lt_iff_toNat_lt→qaN
open ByteArray renaming toList→qca
namespace Go.Am
inductive T (α:Type) where
 |e:T α
 |n (l:T α) (v:Option α) (r:T α):T α
namespace T
variable {α:Type}
def get (t:T α):Nat→Option α:=
 T.rec (motive:=fun _=>Nat→Option α) (fun _=>none)
  (fun _ v _ gl gr k=>Bool.rec (Bool.rec (gr (Nat.pred (qas k 2))) (gl (qas k 2)) (Yc (ZU k 2) 1)) v (Yc k 0)) t
def put (x : α) (f : Nat) : T α → Nat → T α :=
  Nat.rec (motive := fun _ => T α → Nat → T α) (fun t _ => t)
    (fun _ ih t k => T.rec (motive := fun _ => T α)
       (Bool.rec (Bool.rec (n e none (ih e (Nat.pred (qas k 2)))) (n (ih e (qas k 2)) none e) (Yc (ZU k 2) 1)) (n e (some x) e) (Yc k 0))
       (fun l v r _ _ => Bool.rec (Bool.rec (n l v (ih r (Nat.pred (qas k 2)))) (n (ih l (qas k 2)) v r) (Yc (ZU k 2) 1)) (n l (some x) r) (Yc k 0)) t) f
theorem ju (k:Nat):(e:T α).get k=none:=rfl
theorem HT (l r:T α) (v:Option α) (k:Nat):
 (n l v r).get k=if k=0 then v else if k % 2=1 then l.get (k/2) else r.get (k/2-1):=by
 show Bool.rec (motive:=fun _=>Option α) (Bool.rec (motive:=fun _=>Option α) (r.get (Nat.pred (qas k 2))) (l.get (qas k 2)) (Yc (ZU k 2) 1)) v (Yc k 0)=_;by_cases h:k=0
 ·subst h;rfl
 ·have h0:Yc k 0=false:=by cases k;exact absurd rfl h;rfl
  rw [h0,if_neg h];show Bool.rec (motive:=fun _=>Option α) _ _ (Yc (ZU k 2) 1)=_;by_cases h1:k % 2=1
  ·have e1:Yc (ZU k 2) 1=true:=by rw [qab];exact h1
   rw [e1,if_pos h1];rfl
  ·have e1:Yc (ZU k 2) 1=false:=by
    cases hb:Yc (ZU k 2) 1 with
    |false=>rfl
    |true=>exact absurd (Yn hb) h1
   rw [e1,if_neg h1];rfl
theorem EA (x:α) (f k:Nat):put x (f+1) (e:T α) k=
 if k=0 then n e (some x) e else if k % 2=1 then n (put x f e (k/2)) none e else n e none (put x f e (k/2-1)):=by
 show Bool.rec (motive:=fun _=>T α) (Bool.rec (motive:=fun _=>T α) (n e none (put x f e (Nat.pred (qas k 2)))) (n (put x f e (qas k 2)) none e) (Yc (ZU k 2) 1)) (n e (some x) e) (Yc k 0)=_;by_cases h:k=0
 ·subst h;rfl
 ·have h0:Yc k 0=false:=by cases k;exact absurd rfl h;rfl
  rw [h0,if_neg h];show Bool.rec (motive:=fun _=>T α) _ _ (Yc (ZU k 2) 1)=_;by_cases h1:k % 2=1
  ·have e1:Yc (ZU k 2) 1=true:=by rw [qab];exact h1
   rw [e1,if_pos h1];rfl
  ·have e1:Yc (ZU k 2) 1=false:=by
    cases hb:Yc (ZU k 2) 1 with
    |false=>rfl
    |true=>exact absurd (Yn hb) h1
   rw [e1,if_neg h1];rfl
theorem mg (x:α) (f k:Nat) (l r:T α) (v:Option α):put x (f+1) (n l v r) k=
 if k=0 then n l (some x) r else if k % 2=1 then n (put x f l (k/2)) v r else n l v (put x f r (k/2-1)):=by
 show Bool.rec (motive:=fun _=>T α) (Bool.rec (motive:=fun _=>T α) (n l v (put x f r (Nat.pred (qas k 2)))) (n (put x f l (qas k 2)) v r) (Yc (ZU k 2) 1)) (n l (some x) r) (Yc k 0)=_;by_cases h:k=0
 ·subst h;rfl
 ·have h0:Yc k 0=false:=by cases k;exact absurd rfl h;rfl
  rw [h0,if_neg h];show Bool.rec (motive:=fun _=>T α) _ _ (Yc (ZU k 2) 1)=_;by_cases h1:k % 2=1
  ·have e1:Yc (ZU k 2) 1=true:=by rw [qab];exact h1
   rw [e1,if_pos h1];rfl
  ·have e1:Yc (ZU k 2) 1=false:=by
    cases hb:Yc (ZU k 2) 1 with
    |false=>rfl
    |true=>exact absurd (Yn hb) h1
   rw [e1,if_neg h1];rfl
theorem Jd (x:α):∀(f:Nat) (t:T α) (k j:Nat),k<2^f-1∨k<f→(put x f t k).get j=if j=k then some x else t.get j:=by
 intro f
 induction f with
 |zero=>intro t k j h;simp at h
 |succ f ih=>
  intro t k j h;have b1:k % 2=1→(k/2<2^f-1∨k/2<f):=by
   intro h1;rcases h with h|h
   ·left;rw [qbr] at h;omega
   ·right;omega
  have b2:k≠0→k % 2≠1→(k/2-1<2^f-1∨k/2-1<f):=by
   intro h0 h1;rcases h with h|h
   ·left;rw [qbr] at h;omega
   ·right;omega
  have aux:∀(l r:T α) (v:Option α),(t=n l v r∨(t=e∧l=e∧r=e∧v=none))→(put x (f+1) t k).get j=if j=k then some x else t.get j:=by
   intro l r v ht;have e1:put x (f+1) t k=if k=0 then n l (some x) r else if k % 2=1 then n (put x f l (k/2)) v r else n l v (put x f r (k/2-1)):=by
    rcases ht with rfl|⟨rfl,rfl,rfl,rfl⟩
    ·exact mg ..
    ·exact EA ..
   have e2:t.get j=if j=0 then v else if j % 2=1 then l.get (j/2) else r.get (j/2-1):=by
    rcases ht with rfl|⟨rfl,rfl,rfl,rfl⟩
    ·exact HT ..
    ·simp [ju]
   rw [e1,e2];by_cases k0:k=0
   ·rw [if_pos k0,HT];by_cases j0:j=0
    ·simp [j0,k0]
    ·rw [if_neg j0,if_neg (by omega:¬j=k),if_neg j0]
   ·rw [if_neg k0];by_cases k1:k % 2=1
    ·rw [if_pos k1,HT,ih _ _ _ (b1 k1)];by_cases j0:j=0
     ·rw [if_pos j0,if_neg (by omega:¬j=k),if_pos j0]
     ·rw [if_neg j0,if_neg j0];by_cases j1:j % 2=1
      ·rw [if_pos j1,if_pos j1];by_cases hjk:j=k
       ·simp [hjk]
       ·rw [if_neg (by omega:¬j/2=k/2),if_neg hjk]
      ·rw [if_neg j1,if_neg j1,if_neg (by omega:¬j=k)]
    ·rw [if_neg k1,HT,ih _ _ _ (b2 k0 k1)];by_cases j0:j=0
     ·rw [if_pos j0,if_neg (by omega:¬j=k),if_pos j0]
     ·rw [if_neg j0,if_neg j0];by_cases j1:j % 2=1
      ·rw [if_pos j1,if_pos j1,if_neg (by omega:¬j=k)]
      ·rw [if_neg j1,if_neg j1];by_cases hjk:j=k
       ·simp [hjk]
       ·rw [if_neg (by omega:¬j/2-1=k/2-1),if_neg hjk]
  cases t with
  |e=>exact aux e e none (.inr ⟨rfl,rfl,rfl,rfl⟩)
  |n l v r=>exact aux l r v (.inl rfl)
def set (t:T α) (k:Nat) (x:α):T α:=put x (bif Ye k 18446744073709551615 then 64 else qaP k) t k
theorem af (t:T α) (k j:Nat) (x:α):(t.set k x).get j=if j=k then some x else t.get j:=by
 unfold set;cases h:Ye k 18446744073709551615 with
 |true=>
  have h':k<18446744073709551615:=by simpa [Yl] using h
  exact Jd x 64 t k j (.inl h')
 |false=>exact Jd x (k+1) t k j (.inr (Zu k))
def bJ (t:T α) (i:Nat) (l:List α):T α:=
 List.rec (motive:=fun _=>Nat→T α→T α) (fun _ t=>t) (fun x _ ih i t=>ih (qaP i) (t.set i x)) l i t
theorem ak (t:T α) (i:Nat):t.bJ i []=t:=rfl
theorem ag (t:T α) (i:Nat) (x:α) (l:List α):t.bJ i (x::l)=(t.set i x).bJ (i+1) l:=rfl
theorem en (l:List α):∀(t:T α) (i j:Nat),(t.bJ i l).get j=if i≤j∧j<i+l.length then l[j-i]? else t.get j:=by
 induction l with
 |nil=>intro t i j;rw [ak,if_neg];simp only [Ys];omega
 |cons x l ih=>
  intro t i j;rw [ag,ih,af];simp only [Yf];by_cases h1:i+1≤j∧j<i+1+l.length
  ·rw [if_pos h1,if_pos (by omega)];obtain⟨d,rfl⟩:∃d,j=i+1+d:=⟨j-(i+1),by omega⟩;have e1:i+1+d-(i+1)=d:=by omega
   have e2:i+1+d-i=d+1:=by omega
   rw [e1,e2];rfl
  ·rw [if_neg h1];by_cases h2:j=i
   ·subst h2;rw [if_pos rfl,if_pos (by omega)];simp
   ·rw [if_neg h2,if_neg (by omega)]
def ji (t:T α) (n:Nat):Nat→Option (List α):=
 Nat.rec (motive:=fun _=>Nat→Option (List α)) (fun _=>some [])
  (fun _ ih i=>Option.rec none (fun x=>Option.rec none (fun l=>some (x::l)) (ih (qaP i))) (t.get i)) n
theorem KG (t:T α) (i:Nat):t.ji 0 i=some []:=rfl
theorem AF (t:T α) (n i:Nat):t.ji (n+1) i=match t.get i with|none=>none|some x=>match t.ji n (i+1) with|none=>none|some l=>some (x::l):=by
 show Option.rec (motive:=fun _=>Option (List α)) none (fun x=>Option.rec (motive:=fun _=>Option (List α)) none (fun l=>some (x::l)) (t.ji n (i+1))) (t.get i)=_;cases t.get i with
 |none=>rfl
 |some x=>cases t.ji n (i+1)<;>rfl
theorem ma (t:T α):∀(n i:Nat) (l:List α),t.ji n i=some l→l.length=n∧∀j,j<n→t.get (i+j)=l[j]?:=by
 intro n
 induction n with
 |zero=>intro i l h;rw [KG] at h;cases h;exact⟨rfl,fun j hj=>absurd hj (ZR _)⟩
 |succ n ih=>
  intro i l h;rw [AF] at h;cases hx:t.get i with
  |none=>rw [hx] at h;cases h
  |some x=>
   rw [hx] at h;simp only at h;cases hl:t.ji n (i+1) with
   |none=>rw [hl] at h;cases h
   |some l'=>
    rw [hl] at h;simp only [YB] at h;subst h;obtain⟨h1,h2⟩:=ih _ _ hl;refine⟨by simp [h1],fun j hj=>?_⟩;cases j with
    |zero=>simpa using hx
    |succ j=>have:=h2 j (by omega);rw [show i+(j+1)=i+1+j by omega,this];simp
end T
def T.ofList {α:Type} (l:List α):T α:=T.bJ .e 0 l
theorem T.gk {α:Type} (l:List α) (i:Nat):(T.ofList l).get i=l[i]?:=by
 unfold T.ofList;rw [T.en];by_cases hi:i<l.length
 ·rw [if_pos (by omega)];simp
 ·rw [if_neg (by omega),T.ju,YR (by omega)]
inductive R (α:Type) where
 |ok (a:α)
 |no (why:Nat)
def R.bind {α β:Type} (x:R α) (f:α→R β):R β:=
 match x with
 | .ok a=>f a
 | .no w=>.no w
structure gI where
 state:LoopState
 pending:Option Code
 fn:FuncId
 tmps:T Value
 n:Nat
 params:List Tmp
 assign:Code
 body:Code
 defers:Nat
inductive Kd where
 |var (n:Nat)
 |row
 |mark
 |room (n:Nat)
inductive Ob where
 |cells (t:TypeId) (x:Kd) (fz:Nat) (c:T Value)
 |map (es:List MapEntry) (clock:Nat)
 |sit (s:ByteArray) (pos:Nat)
 |mit (m c:Nat) (b:Option Nat)
 |loop (r:gI)
 |defd
 |dead
structure Mem where
 heap:T Ob
 next:Nat
def Mem.get (A:Mem) (b:Nat):Option Ob:=A.heap.get b
def Mem.set (A:Mem) (b:Nat) (o:Ob):Mem:={A with heap:=A.heap.set b o}
def Mem.alloc (A:Mem) (o:Ob):Mem:={heap:=A.heap.set A.next o,next:=qaP A.next}
def GB (k:Nat):Nat:=18446744073709551617+2*k
def HX (g:Nat→Option Ob) (k:Nat):R Value:=
 match g k with
 |some (.cells _ .row fz _)=>bif Yc fz (GB k) then .ok (.pointer (some ⟨k,0,none⟩)) else .no 201
 |_=>.no 201
def gV:Nat→Value→Bool
 |0,_=>false
 |d+1,v=>
  match v with
  | .bool _| .int _ _| .string _| .pointer none| .slice none 0 0| .map none| .nilFunc| .nilIface=>true
  | .iface _ v=>gV d v
  | .agg l=>l.toList.all (gV d)
  | .tuple l=>l.toList.all (gV d)
  | .func (.func _) ⟨[]⟩ ⟨[]⟩=>true
  |_=>false
structure bI where
 P:Program
 ty:T TypeInfo
 fn:T Func
 ex:T Nat
 hk:T (List Value→Mem→R (Value×Mem))
def bI.bp (tb:bI) (t:TypeId):Option TypeDesc:=
 match tb.ty.get t with
 |some i=>match i.desc with
  | .named _ u=>match tb.ty.get u with
   |some j=>some j.desc
   |none=>none
  |d=>some d
 |none=>none
def iy (k:IntKind) (n:Int):Bool:=
 match k,n with
 | .i64,.ofNat m=>Ye m 9223372036854775808
 | .i64,.negSucc m=>Ye m 9223372036854775808
 | .u8,.ofNat m=>Ye m 256
 | .u16,.ofNat m=>Ye m 65536
 | .u32,.ofNat m=>Ye m 4294967296
 | .u64,.ofNat m=>Ye m 18446744073709551616
 | .i32,.ofNat m=>Ye m 2147483648
 | .i32,.negSucc m=>Ye m 2147483648
 |_,_=>false
def dg (k:IntKind) (n:Int):Int:=bif iy k n then n else k.wrap n
def nu (a b:Int):Bool:=
 match a,b with
 | .ofNat x,.ofNat y=>Ye x y
 | .ofNat _,.negSucc _=>false
 | .negSucc _,.ofNat _=>true
 | .negSucc x,.negSucc y=>Ye y x
def mL (a b:Int):Bool:=
 match a,b with
 | .ofNat x,.ofNat y=>Yc x y
 | .negSucc x,.negSucc y=>Yc x y
 |_,_=>false
def dS (a b:IntKind):Bool:=
 match a,b with
 | .i8,.i8| .i16,.i16| .i32,.i32| .i64,.i64| .u8,.u8| .u16,.u16| .u32,.u32| .u64,.u64=>true
 |_,_=>false
def Dx (op:BinOp) (k:IntKind) (x y:Int):R Value:=
 match op,x,y with
 | .and,.ofNat a,.ofNat b=>bif iy k x&&iy k y then .ok (.int k (.ofNat (Nat.land a b))) else .no 10
 | .or,.ofNat a,.ofNat b=>bif iy k x&&iy k y then .ok (.int k (.ofNat (Nat.lor a b))) else .no 11
 | .xor,.ofNat a,.ofNat b=>bif iy k x&&iy k y then .ok (.int k (.ofNat (Nat.xor a b))) else .no 12
 | .and,.ofNat a,.negSucc b=>bif iy k x&&iy k y then .ok (.int k (.ofNat (Nat.xor a (Nat.land a b)))) else .no 10
 |_,_,_=>.no 13
def xH (op:BinOp) (k:IntKind) (x y:Int):R Value:=
 match op,x,y with
 | .shr,.ofNat a,.ofNat b=>.ok (.int k (.ofNat (qch a (bif Ye b k.bits then b else k.bits))))
 | .shl,.ofNat a,.ofNat b=>bif Ye b k.bits then .ok (.int k (dg k (.ofNat (Nat.shiftLeft a b)))) else .ok (.int k 0)
 |_,_,_=>.no 14
def MH (op:BinOp) (k:IntKind) (x y:Int):R Value:=
 match op,x,y with
 | .quo,.ofNat a,.ofNat (b+1)=>.ok (.int k (dg k (.ofNat (qas a (b+1)))))
 | .rem,.ofNat a,.ofNat (b+1)=>.ok (.int k (.ofNat (ZU a (b+1))))
 | .quo,x,y=>bif mL y 0 then .no 15 else .ok (.int k (k.wrap (x.tdiv y)))
 | .rem,x,y=>bif mL y 0 then .no 15 else .ok (.int k (x.tmod y))
 |_,_,_=>.no 16
def a7:List UInt8→List UInt8→Bool
 |_,[]=>false
 | [],_::_=>true
 |a::x,b::y=>Ye a.toNat b.toNat||(Yc a.toNat b.toNat&&a7 x y)
def eJ:List UInt8→List UInt8→Bool
 | [],[]=>true
 |a::x,b::y=>Yc a.toNat b.toNat&&eJ x y
 |_,_=>false
def strOf (l:List UInt8):Value:=.string ⟨⟨l⟩⟩
def de (op:BinOp) (x y:List UInt8):R Value:=
 match op with
 | .add=>bif Ye (x.length+y.length) 4611686018427387904 then .ok (strOf (x++y)) else .no 20
 | .eql=>.ok (.bool (eJ x y))
 | .neq=>.ok (.bool (!eJ x y))
 | .lss=>.ok (.bool (a7 x y))
 | .leq=>.ok (.bool (a7 x y||eJ x y))
 | .gtr=>.ok (.bool (!(a7 x y||eJ x y)))
 | .geq=>.ok (.bool (!a7 x y))
 |_=>.no 21
def aN (op:BinOp) (k:IntKind) (a b:Int):R Value:=
 match op with
 | .add=>.ok (.int k (dg k (a+b)))
 | .sub=>.ok (.int k (dg k (a-b)))
 | .mul=>.ok (.int k (dg k (a*b)))
 | .quo| .rem=>MH op k a b
 | .and| .or| .xor| .andNot=>Dx op k a b
 | .eql=>.ok (.bool (mL a b))
 | .neq=>.ok (.bool (!mL a b))
 | .lss=>.ok (.bool (nu a b))
 | .leq=>.ok (.bool (!nu b a))
 | .gtr=>.ok (.bool (nu b a))
 | .geq=>.ok (.bool (!nu a b))
 | .shl| .shr=>.no 22
def HC (n:Nat):Value:=.complex .f64 n 0
def Hn (op:BinOp) (n:Nat) (y:Int):R Value:=
 match op,y with
 | .lss,.ofNat m=>bif X5 m n then .ok (.bool false) else .no 17
 | .geq,.ofNat m=>bif X5 m n then .ok (.bool true) else .no 17
 | .sub,.ofNat m=>bif X5 m n then .ok (HC (n-m)) else .no 17
 |_,_=>.no 18
def Hb (op:BinOp) (y:Int) (n:Nat):R Value:=
 match op,y with
 | .gtr,.ofNat m=>bif X5 m n then .ok (.bool false) else .no 17
 | .leq,.ofNat m=>bif X5 m n then .ok (.bool true) else .no 17
 |_,_=>.no 18
def hZ (op:BinOp) (d:Option TypeDesc) (x y:Value):R Value:=
 match x,y with
 | .complex .f64 n 0,.int .i64 y=>Hn op n y
 | .int .i64 y,.complex .f64 n 0=>Hb op y n
 | .int k a,.int k' b=>
  match op with
  | .shl| .shr=>xH op k a b
  |_=>bif dS k k' then aN op k a b else .no 23
 | .string a,.string b=>de op a.data.toList b.data.toList
 | .bool a,.bool b=>
  match op,d with
  | .eql,some .bool=>.ok (.bool (bif a then b else !b))
  | .neq,some .bool=>.ok (.bool (bif a then !b else b))
  |_,_=>.no 24
 |_,_=>.no 25
def Uw (op:UnOp) (x:Value):R Value:=
 match op,x with
 | .neg,.int k n=>.ok (.int k (dg k (0-n)))
 | .xor,.int k (.ofNat n)=>
  bif k.signed then .ok (.int k (dg k (.negSucc n)))
  else bif iy k (.ofNat n) then .ok (.int k (.ofNat (2^k.bits-1-n))) else .no 26
 | .xor,.int k (.negSucc n)=>bif k.signed then .ok (.int k (dg k (.ofNat n))) else .no 26
 | .not,.bool b=>.ok (.bool (!b))
 |_,_=>.no 27
def eA (c:Nat):Bool:=Yc (ZU c 2) 0
def bN (c:Nat):Nat:=bif eA c then qas c 2 else qas (qas c 2) 65536
def iQ (c:Nat):Nat:=ZU (qas c 2) 65536
def fe (cap es:Nat):Nat:=2*(cap*65536+es)+1
def gO (c l:Nat):Nat:=bif eA c then 2*(bN c-l) else fe (bN c-l) (iQ c)
def eG (c size:Nat):Bool:=bif eA c then true else Yc (iQ c) size
def lP (v:Value):R Nat:=
 match v with
 | .int _ (.ofNat n)=>.ok n
 |_=>.no 30
def bound (v:Option Value) (d most:Nat):R Nat:=
 match v with
 |none=>.ok d
 |some v=>match lP v with
  | .ok n=>bif X5 n most then .ok n else .no 31
  | .no w=>.no w
def jh (a:Addr) (n:Nat):Addr:=⟨a.block,a.off+n,none⟩
def aY (tb:bI) (t:TypeId):R Nat:=
 match tb.ty.get t with
 |some i=>.ok i.size
 |none=>.no 32
def dj (tb:bI) (t:TypeId) (x:Value) (lo hi mx:Option Value):R Value:=
 match tb.bp t,x with
 |some .string,.string s=>
  match mx with
  |some _=>.no 33
  |none=>(bound hi s.data.toList.length s.data.toList.length).bind fun h=>(bound lo 0 h).bind fun l=>
   .ok (strOf ((s.data.toList.take h).drop l))
 |some (.slice elem),.slice a len cap=>
  match mx with
  |none=>(bound hi len (bN cap)).bind fun h=>(bound lo 0 h).bind fun l=>(aY tb elem).bind fun size=>
   match a with
   |none=>.ok (.slice none 0 0)
   |some a=>match a.spot with
    |some _=>.no 34
    |none=>bif eA cap&&Yc (bN cap) l then .ok (.slice (some a) (h-l) 0)
     else bif eG cap size then .ok (.slice (some (jh a (l*size))) (h-l) (gO cap l)) else .no 35
  |some mv=>(bound (some mv) 0 (bN cap)).bind fun m=>(bound hi 0 m).bind fun h=>(bound lo 0 h).bind fun l=>(aY tb elem).bind fun size=>
   match a,hi with
   |_,none=>.no 36
   |none,_=>.ok (.slice none 0 0)
   |some a,some _=>match a.spot with
    |some _=>.no 37
    |none=>bif eA cap||(eG cap size&&Ye 0 (bN cap)) then
     bif Yc m l then .ok (.slice (some a) (h-l) 0) else .ok (.slice (some (jh a (l*size))) (h-l) (2*(m-l)))
     else .no 37
 |some (.array n elem),.pointer (some a)=>
  match mx,a.spot with
  |none,none=>(bound hi n n).bind fun h=>(bound lo 0 h).bind fun l=>(aY tb elem).bind fun size=>
   bif Yc n l then .ok (.slice (some a) (h-l) 0) else .ok (.slice (some (jh a (l*size))) (h-l) (2*(n-l)))
  |_,_=>.no 38
 |_,_=>.no 39
def ax (tb:bI) (t:TypeId) (x:Value) (i:Nat):R Value:=
 match tb.bp t,x with
 |some (.struct fs),.pointer (some a)=>
  match a.spot,fs.toList[i]? with
  |none,some f=>(aY tb f.type).bind fun n=>bif Yc n 0 then .no 40 else .ok (.pointer (some (jh a f.offset)))
  |_,_=>.no 41
 |_,_=>.no 42
def aZ (tb:bI) (t:TypeId) (x i:Value):R Value:=
 match lP i with
 | .no w=>.no w
 | .ok i=>
  match tb.bp t,x with
  |some (.array len elem),.pointer (some a)=>
   match a.spot with
   |some _=>.no 43
   |none=>bif Ye i len then(aY tb elem).bind fun n=>.ok (.pointer (some (jh a (i*n)))) else .no 44
  |some (.slice elem),.slice (some a) len _=>
   match a.spot with
   |some _=>.no 45
   |none=>bif Ye i len then(aY tb elem).bind fun n=>.ok (.pointer (some (jh a (i*n)))) else .no 46
  |_,_=>.no 47
def cN:TypeDesc→Bool
 | .struct _| .array _ _=>true
 |_=>false
def je (tb:bI) (t:TypeId) (cs:List Value) (off:Nat):R Value:=
 match tb.bp t with
 |none=>.no 48
 |some d=>bif cN d then(aY tb t).bind fun n=>.ok (.agg ⟨(cs.drop off).take n⟩)
  else match cs[off]? with
   |some v=>.ok v
   |none=>.no 49
def tU (tb:bI) (t:TypeId) (x:Value) (i:Nat):R Value:=
 match tb.bp t,x with
 |some (.struct fs),.agg cs=>match fs.toList[i]? with
  |some f=>je tb f.type cs.toList f.offset
  |none=>.no 50
 |_,_=>.no 51
def mV (tb:bI) (t:TypeId) (x i:Value):R Value:=
 match lP i with
 | .no w=>.no w
 | .ok i=>
  match tb.bp t,x with
  |some (.array len elem),.agg cs=>bif Ye i len then(aY tb elem).bind fun n=>je tb elem cs.toList (i*n) else .no 52
  |some .string,.string s=>match s.data.toList[i]? with
   |some b=>.ok (.int .u8 (.ofNat b.toNat))
   |none=>.no 53
  |_,_=>.no 54
def oK (cells:List Value) (off:Nat) (vs:List Value):List Value:=cells.take off++vs++cells.drop (off+vs.length)
def yX (place:Nat→Option (Nat×Nat)) (cells:List Value):List (Nat×Value)→Option (List Value)
 | []=>some cells
 |(i,v)::rest=>
  match place i with
  |none=>none
  |some (off,size)=>
   bif Yc v.cells.toList.length size&&X5 (off+size) cells.length then yX place (oK cells off v.cells.toList) rest else none
def s_ (tb:bI):List Field→R (List (Nat×Nat))
 | []=>.ok []
 |f::fs=>(aY tb f.type).bind fun n=>(s_ tb fs).bind fun l=>.ok ((f.offset,n)::l)
def b7 (tb:bI) (t:TypeId):R Value:=
 match tb.ty.get t with
 |some i=>match i.zero with
  |some v=>bif gV 3 v then .ok v else .no 55
  |none=>.no 55
 |none=>.no 56
def cr (tb:bI) (t:TypeId) (parts:List (Nat×Value)):R Value:=
 (b7 tb t).bind fun zero=>
 match tb.bp t with
 |some (.struct fs)=>(s_ tb fs.toList).bind fun places=>
  match yX (fun i=>places[i]?) zero.cells.toList parts with
  |some cells=>.ok (.agg ⟨cells⟩)
  |none=>.no 57
 |some (.array _ elem)=>(aY tb elem).bind fun n=>
  match yX (fun i=>some (i*n,n)) zero.cells.toList parts with
  |some cells=>.ok (.agg ⟨cells⟩)
  |none=>.no 58
 |_=>.no 59
def qX (zero:List Value):Nat→List Value
 |0=>[]
 |n+1=>zero++qX zero n
def cq (tb:bI) (t:TypeId):R (Nat×List Value):=
 (b7 tb t).bind fun z=>(aY tb t).bind fun n=>bif Yc z.cells.toList.length n then .ok (n,z.cells.toList) else .no 60
def gj (tb:bI) (src dst:TypeId) (x:Value):R Value:=
 match tb.bp src,tb.bp dst,x with
 |some _,some (.int k),.int _ n=>.ok (.int k (dg k n))
 |some _,some .string,.string s=>.ok (.string s)
 |_,_,_=>.no 61
def aq (tb:bI) (g:Nat→Option Ob) (t:TypeId) (x:Value):R Value:=
 match x with
 | .pointer (some a)=>
  match a.spot,g a.block,tb.bp t with
  |none,some (.cells _ _ _ c),some d=>
   bif cN d then(aY tb t).bind fun n=>match c.ji n a.off with
    |some l=>.ok (.agg ⟨l⟩)
    |none=>.no 70
   else match c.get a.off with
    |some v=>.ok v
    |none=>.no 71
  |_,_,_=>.no 72
 |_=>.no 73
def bytesOf:List Value→R (List UInt8)
 | []=>.ok []
 | .int .u8 (.ofNat n)::vs=>(bytesOf vs).bind fun l=>.ok (Zc n::l)
 |_=>.no 74
def c_ (g:Nat→Option Ob) (size n:Nat) (a:Option Addr):R (List Value):=
 match a with
 |none=>.ok []
 |some a=>bif Yc (n*size) 0 then .ok [] else match a.spot,g a.block with
  |none,some (.cells _ _ _ c)=>match c.ji (n*size) a.off with
   |some l=>.ok l
   |none=>.no 75
  |_,_=>.no 76
def ik (g:Nat→Option Ob) (x:Value):R Value:=
 match x with
 | .slice none _ _=>.ok (strOf [])
 | .slice (some a) len _=>(c_ g 1 len (some a)).bind fun vs=>(bytesOf vs).bind fun l=>.ok (strOf l)
 |_=>.no 77
def vo (a b:Value):Option Bool:=
 match a,b with
 | .int k x,.int k' y=>bif dS k k' then some (mL x y) else none
 | .string x,.string y=>some (eJ x.data.toList y.data.toList)
 |_,_=>none
def findF (k:Value):List MapEntry→Nat→Option (Option (Nat×Value))
 | [],_=>some none
 |e::es,i=>
  match vo k e.key with
  |some true=>some (some (i,e.val))
  |some false=>findF k es (qaP i)
  |none=>none
def ei (tb:bI) (t:TypeId) (k:Value):Bool:=
 match tb.bp t,k with
 |some (.int _),.int _ _=>true
 |some .string,.string _=>true
 |_,_=>false
def iB (g:Nat→Option Ob) (x:Value):R (List MapEntry):=
 match x with
 | .map none=>.ok []
 | .map (some r)=>match g r with
  |some (.map es _)=>.ok es
  |_=>.no 78
 |_=>.no 79
def fx (tb:bI) (g:Nat→Option Ob) (t:TypeId) (x k:Value) (ok:Bool):R Value:=
 match tb.bp t with
 |some (.map key elem)=>
  bif ei tb key k then(iB g x).bind fun es=>
   match findF k es 0 with
   |some (some (_,v))=>.ok (bif ok then .tuple ⟨[v,.bool true]⟩ else v)
   |some none=>(b7 tb elem).bind fun z=>.ok (bif ok then .tuple ⟨[z,.bool false]⟩ else z)
   |none=>.no 80
  else .no 81
 |_=>.no 82
def ptrEq (g:Nat→Option Ob) (a b:Option Addr):R Bool:=
 match a,b with
 |none,none=>.ok true
 |none,some _=>.ok false
 |some _,none=>.ok false
 |some a,some b=>
  match a.spot,b.spot with
  |none,none=>
   bif Yc a.block b.block then .ok (Yc a.off b.off)
   else match g a.block,g b.block with
    |some (.cells _ (.var _) _ _),some (.cells _ (.var _) _ _)=>.ok false
    |_,_=>.no 83
  |_,_=>.no 84
def iE (tb:bI) (eq:TypeId→Value→Value→R Bool) (xs ys:List Value):List Field→R Bool
 | []=>.ok true
 |f::fs=>bif f.name== "_" then .no 85 else
  (je tb f.type xs f.offset).bind fun a=>(je tb f.type ys f.offset).bind fun b=>(eq f.type a b).bind fun
   |true=>iE tb eq xs ys fs
   |false=>.ok false
def sc (tb:bI) (eq:TypeId→Value→Value→R Bool) (elem:TypeId) (size:Nat) (xs ys:List Value):(n i:Nat)→R Bool
 |0,_=>.ok true
 |n+1,i=>
  (je tb elem xs (i*size)).bind fun a=>(je tb elem ys (i*size)).bind fun b=>(eq elem a b).bind fun
   |true=>sc tb eq elem size xs ys n (i+1)
   |false=>.ok false
def eZ (tb:bI) (g:Nat→Option Ob):(d:Nat)→TypeId→Value→Value→R Bool
 |0,_,_,_=>.no 86
 |d+1,t,x,y=>
  match tb.bp t,x,y with
  |some .bool,.bool a,.bool b=>.ok (bif a then b else !b)
  |some (.int _),.int k a,.int k' b=>bif dS k k' then .ok (mL a b) else .no 87
  |some .string,.string a,.string b=>.ok (eJ a.data.toList b.data.toList)
  |some (.pointer elem),.pointer a,.pointer b=>(aY tb elem).bind fun n=>match a,b with
   |some _,some _=>bif Yc n 0 then .no 88 else ptrEq g a b
   |_,_=>ptrEq g a b
  |some (.interface _),.nilIface,.nilIface=>.ok true
  |some (.interface _),.nilIface,.iface _ _=>.ok false
  |some (.interface _),.iface _ _,.nilIface=>.ok false
  |some (.interface _),.iface tx vx,.iface ty vy=>
   bif Yc tx ty then
    match tb.ty.get tx with
    |some i=>bif i.comparable then eZ tb g d tx vx vy else .no 89
    |none=>.no 90
   else .ok false
  |some (.struct fs),.agg xs,.agg ys=>
   bif tb.P.stoodInHeld t then .no 91 else iE tb (eZ tb g d) xs.toList ys.toList fs.toList
  |some (.array len elem),.agg xs,.agg ys=>(aY tb elem).bind fun n=>sc tb (eZ tb g d) elem n xs.toList ys.toList len 0
  |some (.slice _),.slice none _ _,.slice b _ _=>.ok (Option.isNone b)
  |some (.slice _),.slice (some _) _ _,.slice none _ _=>.ok false
  |some (.map _ _),.map none,.map b=>.ok (Option.isNone b)
  |some (.map _ _),.map (some _),.map none=>.ok false
  |some (.func _ _ _),.nilFunc,.nilFunc=>.ok true
  |some (.func _ _ _),.nilFunc,.func _ _ _=>.ok false
  |some (.func _ _ _),.func _ _ _,.nilFunc=>.ok false
  |_,_,_=>.no 92
def oJ:Operand→Bool
 | .const _=>true
 |_=>false
def pY (tb:bI) (t:TypeId) (x y:Operand) (a b:Value):Bool:=
 match a,b with
 | .nilIface,.nilIface=>oJ x||oJ y
 | .agg _,.agg _=>!tb.P.eqGuardType tb.P.depth t
 |_,_=>true
def u_ (tb:bI) (g:Nat→Option Ob) (op:BinOp) (t:TypeId) (x y:Operand) (a b:Value):R Value:=
 bif pY tb t x y a b then
  match op with
  | .eql=>(eZ tb g 100 t a b).bind fun r=>.ok (.bool r)
  | .neq=>(eZ tb g 100 t a b).bind fun r=>.ok (.bool (!r))
  |_=>.no 93
 else .no 94
def uO (x y:Value):R Value:=
 match x,y with
 | .int k a,.int k' b=>bif dS k k' then .ok (.int k (bif nu a b then b else a)) else .no 95
 |_,_=>.no 96
def u6 (x y:Value):R Value:=
 match x,y with
 | .int k a,.int k' b=>bif dS k k' then .ok (.int k (bif nu b a then b else a)) else .no 97
 |_,_=>.no 98
def jc (f:Value→Value→R Value):Value→List Value→R Value
 |x,[]=>.ok x
 |x,y::l=>(f x y).bind fun z=>jc f z l
def pg (tb:bI) (x:Value) (asserted:TypeId) (ok:Bool):R Value:=
 let fails:R Value:=bif ok then(b7 tb asserted).bind fun z=>.ok (.tuple ⟨[z,.bool false]⟩) else .no 99
 let holds (v:Value):R Value:=.ok (bif ok then .tuple ⟨[v,.bool true]⟩ else v)
 match tb.bp asserted,x with
 |some (.interface _),.nilIface=>fails
 |some (.interface want),.iface t _=>
  match tb.ty.get t with
  |some i=>match Instr.missingMethod want i.methods with
   |none=>holds x
   |some _=>fails
  |none=>.no 100
 |some _,.nilIface=>fails
 |some _,.iface t v=>bif Yc t asserted then holds v else fails
 |none,_=>.no 101
 |some _,_=>.no 102
inductive Way where
 |ptr
 |m_ (len cap:Nat)
 |mp
def Way.at (w:Way) (b:Nat):Value:=
 match w with
 | .ptr=>.pointer (some ⟨b,0,none⟩)
 | .m_ len cap=>.slice (some ⟨b,0,none⟩) len cap
 | .mp=>.map (some b)
def aa (t:TypeId) (l:List Value):Ob:=.cells t (.var l.length) 0 (T.bJ .e 0 l)
def bc (tb:bI) (t:TypeId) (len:Nat) (parts:List (Nat×Value)):R (Ob×Way):=
 match tb.bp t with
 |some (.slice elem)=>(cq tb elem).bind fun(n,zero)=>
  bif X5 (len*n) 16777216 then
   match yX (fun i=>some (i*n,n)) (qX zero len) parts with
   |some cells=>.ok (aa elem cells,.m_ len (2*len))
   |none=>.no 110
  else .no 111
 |_=>.no 112
def eL (tb:bI) (t:TypeId) (len cap:Value):R (Ob×Way):=
 match tb.bp t with
 |some (.slice elem)=>(lP len).bind fun l=>(lP cap).bind fun c=>(cq tb elem).bind fun(_,zero)=>
  match tb.ty.get elem with
  |some i=>bif X5 l c&&X5 c 1048576&&X5 i.bytes 1048576 then .ok (aa elem (qX zero c),.m_ l (2*c)) else .no 113
  |none=>.no 114
 |_=>.no 115
def dq (b:UInt8):Value:=.int .u8 (.ofNat b.toNat)
def jt (tb:bI) (src dst:TypeId) (x:Value):R (Ob×Way):=
 match tb.bp src,tb.bp dst,x with
 |some .string,some (.slice e),.string s=>
  match tb.bp e with
  |some (.int .u8)=>bif Ye s.data.toList.length 4294967296 then
   .ok (.cells e .mark 0 (T.bJ .e 0 (s.data.toList.map dq)),.m_ s.data.toList.length (fe s.data.toList.length 1)) else .no 116
  |_=>.no 117
 |_,_,_=>.no 118
def fq (tb:bI) (t:TypeId) (reserve:Option Value):R (Ob×Way):=
 match reserve with
 |none=>.ok (.map [] 0,.mp)
 |some v=>match tb.bp t,v with
  |some (.map _ _),.int _ _=>.ok (.map [] 0,.mp)
  |_,_=>.no 119
def aJ (v:Value):Bool:=
 match v with
 | .agg _| .tuple _=>false
 |_=>true
def dW (m fz:Nat):List Value→Nat→T Value→R (T Value)
 | [],_,c=>.ok c
 |v::vs,i,c=>bif aJ v&&X5 fz i then
  match c.get i with
  |some _=>dW m fz vs (qaP i) (c.set i v)
  |none=>bif Ye i m then dW m fz vs (qaP i) (c.set i v) else .no 120
  else .no 121
def yH:Kd→Nat
 | .room n=>n
 |_=>0
def cI (A:Mem) (a:Addr) (vs:List Value):R Mem:=
 match vs with
 | []=>.ok A
 |vs=>match a.spot,A.get a.block with
  |none,some (.cells t x fz c)=>(dW (yH x) fz vs a.off c).bind fun c'=>.ok (A.set a.block (.cells t x fz c'))
  |_,_=>.no 122
def aW (tb:bI) (A:Mem) (t:TypeId) (x v:Value):R Mem:=
 match x with
 | .pointer (some a)=>(aY tb t).bind fun n=>bif Yc v.cells.toList.length n then cI A a v.cells.toList else .no 123
 |_=>.no 124
def jC (x:Value):R Nat:=
 match x with
 | .slice _ n _=>.ok n
 | .string s=>.ok s.data.toList.length
 |_=>.no 125
def gX (g:Nat→Option Ob) (size n:Nat) (x:Value):R (List Value):=
 match x with
 | .slice a _ _=>c_ g size n a
 | .string s=>bif Yc size 1 then .ok ((s.data.toList.take n).map dq) else .no 126
 |_=>.no 126
def gu:TypeDesc→Bool
 | .int _=>true
 |_=>false
def cU (tb:bI) (A:Mem) (elem:TypeId) (base:Option Addr) (len cap size n:Nat) (new:List Value):R (Value×Mem):=
 bif X5 (len+n) (bN cap) then
  match base with
  |none=>.ok (.slice none 0 0,A)
  |some a=>match a.spot with
   |some _=>.no 128
   |none=>(cI A (jh a (len*size)) new).bind fun A'=>.ok (.slice (some a) (len+n) cap,A')
 else
  match tb.ty.get elem with
  |none=>.no 129
  |some i=>
   bif X5 (len+n) 16777216&&X5 i.bytes 65536&&Ye 0 i.bytes&&Ye 0 size&&Ye size 65536 then
    (c_ A.get size len base).bind fun old=>
    let v:Value:=.slice (some ⟨A.next,0,none⟩) (len+n) (fe (len+n) size)
    bif eA cap then .ok (v,A.alloc (.cells elem .row 0 (T.bJ .e 0 (old++new))))
    else match base with
     |some a=>bif Yc (iQ cap) size&&new.all aJ then
      match a.spot,A.get a.block with
      |none,some (.cells t x fz _)=>bif X5 fz (a.off+len*size)&&(Yc t elem&&Ye fz 9223372036854775808) then
       match x with
       | .var _=>.no 130
       | .room _=>.no 130
       |x=>.ok (v,(A.set a.block .dead).alloc (.cells elem x (fz-a.off) (T.bJ .e 0 (old++new))))
       else .no 130
      |_,_=>.no 131
      else .no 132
     |none=>.no 133
   else .no 134
def CT (tb:bI) (A:Mem) (elem:TypeId) (base:Option Addr) (len cap:Nat) (x:Value):R (Value×Mem):=
 (cq tb elem).bind fun(size,zero)=>(lP x).bind fun n=>
 match tb.ty.get elem with
 |none=>.no 137
 |some i=>bif X5 n 16777216&&X5 i.bytes 65536 then cU tb A elem base len cap size n (qX zero n) else .no 127
def bk (tb:bI) (A:Mem) (st:TypeId) (xt:TypeId) (s x:Value):R (Value×Mem):=
 match tb.bp st,s,tb.bp xt with
 |some (.slice elem),.slice base len cap,some xd=>
  bif gu xd then CT tb A elem base len cap x else
  (cq tb elem).bind fun(size,_)=>(jC x).bind fun n=>(gX A.get size n x).bind fun new=>cU tb A elem base len cap size n new
 |_,_,_=>.no 135
def IE (tb:bI) (A:Mem) (dt:TypeId) (d s:Value):R (Value×Mem):=
 match tb.bp dt,d with
 |some (.slice elem),.slice base dl _=>(aY tb elem).bind fun size=>(jC s).bind fun sl=>
  let n:=bif X5 sl dl then sl else dl
  (gX A.get size n s).bind fun l=>
  match base with
  |none=>.ok (.int .i64 (.ofNat n),A)
  |some a=>(cI A a l).bind fun A'=>.ok (.int .i64 (.ofNat n),A')
 |_,_=>.no 136
def cM:Value:=.tuple ⟨[]⟩
def BY (tb:bI) (A:Mem) (t:TypeId) (x:Value):R (Value×Mem):=
 match tb.bp t,x with
 |some _,.map none=>.ok (cM,A)
 |some _,.map (some r)=>match A.get r with
  |some (.map _ clock)=>.ok (cM,A.set r (.map [] clock))
  |_=>.no 137
 |some _,.slice none _ _=>.ok (cM,A)
 |some (.slice elem),.slice (some a) n _=>bif Yc n 0 then .ok (cM,A) else
  (cq tb elem).bind fun(_,zero)=>(cI A a (qX zero n)).bind fun A'=>.ok (cM,A')
 |_,_=>.no 138
def xK (tb:bI) (A:Mem) (pt:TypeId) (x n:Value):R (Value×Mem):=
 (lP n).bind fun n=>
 match x,tb.bp pt with
 | .pointer (some a),some (.pointer e)=>
  match a.spot,A.get a.block,tb.bp e with
  |none,some (.cells t k fz c),some (.int .u8)=>(aY tb e).bind fun size=>
   bif Yc t e&&Yc size 1&&Ye 0 n&&X5 n 16777216&&(Ye fz 9223372036854775808&&Ye (a.off+n) 9223372036854775808) then
    match c.ji n a.off with
    |some vs=>match k with
     | .mark=>.no 155
     |_=>(bytesOf vs).bind fun l=>.ok (strOf l,A.set a.block (.cells t .row (bif X5 fz (a.off+n) then a.off+n else fz) c))
    |none=>.no 151
   else .no 152
  |_,_,_=>.no 153
 | .pointer none,_=>bif Yc n 0 then .ok (strOf [],A) else .no 154
 |_,_=>.no 154
def rT (es:List MapEntry) (i:Nat) (k v:Value):List MapEntry:=
 match es,i with
 | [],_=>[]
 |e::es,0=>{e with key:=k,val:=v}::es
 |e::es,i+1=>e::rT es i k v
def ph (es:List MapEntry) (i:Nat):List MapEntry:=
 match es,i with
 | [],_=>[]
 |_::es,0=>es
 |e::es,i+1=>e::ph es i
def cF (tb:bI) (A:Mem) (t:TypeId) (m k v:Value):R Mem:=
 match tb.bp t,m with
 |some (.map kt _),.map (some r)=>
  bif ei tb kt k then
   match A.get r with
   |some (.map es clock)=>match findF k es 0 with
    |some (some (i,_))=>.ok (A.set r (.map (rT es i k v) clock))
    |some none=>.ok (A.set r (.map (es++[{key:=k,val:=v,born:=clock}]) (clock+1)))
    |none=>.no 139
   |_=>.no 140
  else .no 141
 |_,_=>.no 142
def wN (tb:bI) (A:Mem) (t:TypeId) (m k:Value):R (Value×Mem):=
 match tb.bp t,m with
 |some (.map kt _),.map none=>bif ei tb kt k then .ok (cM,A) else .no 143
 |some (.map kt _),.map (some r)=>
  bif ei tb kt k then
   match A.get r with
   |some (.map es clock)=>match findF k es 0 with
    |some (some (i,_))=>.ok (cM,A.set r (.map (ph es i) clock))
    |some none=>.ok (cM,A.set r (.map es clock))
    |none=>.no 144
   |_=>.no 145
  else .no 146
 |_,_=>.no 147
def tu (tb:bI) (A:Mem) (t:TypeId) (x:Value):R (Value×Mem):=
 match tb.bp t,x with
 |some .string,.string s=>.ok (.pointer (some ⟨A.next,0,none⟩),A.alloc (.sit s 0))
 |some (.map _ _),.map (some r)=>match A.get r with
  |some (.map _ c)=>.ok (.pointer (some ⟨A.next,0,none⟩),A.alloc (.mit r c none))
  |_=>.no 148
 |_,_=>.no 148
def H5 (A:Mem) (x:Value) (isString:Bool):R (Value×Mem):=
 match x,isString with
 | .pointer (some ⟨r,0,none⟩),true=>match A.get r with
  |some (.sit s pos)=>
   bif Ye pos s.size then
    let cw:=Utf8.decode s pos
    .ok (.tuple ⟨[.bool true,goInt pos,.int .i32 cw.1]⟩,A.set r (.sit s (pos+cw.2)))
   else .ok (.tuple ⟨[.bool false]⟩,A)
  |_=>.no 149
 | .pointer (some ⟨r,0,none⟩),false=>match A.get r with
  |some (.mit m c b)=>match A.get m with
   |some (.map [e] k)=>bif Yc k c&&Ye e.born c then match b with
    |none=>.ok (.tuple ⟨[.bool true,e.key,e.val]⟩,A.set r (.mit m c (some e.born)))
    |some x=>bif Yc x e.born then .ok (.tuple ⟨[.bool false]⟩,A) else .no 149
    else .no 149
   |_=>.no 149
  |_=>.no 149
 |_,_=>.no 150
def CB (A:Mem) (x:Value):R (Value×Mem):=
 match x with
 | .pointer (some ⟨r,0,none⟩)=>match A.get r with
  |some (.mit m c (some x))=>match A.get m with
   |some (.map [e] k)=>bif Yc k c&&Yc x e.born then .ok (.tuple ⟨[e.key,e.val]⟩,A) else .no 149
   |_=>.no 149
  |_=>.no 149
 |_=>.no 150
inductive Pl where
 |val (v:Value)
 |var (a:Addr)
def Pl.get (tb:bI) (g:Nat→Option Ob) (t:TypeId) (x:Pl):R Value:=
 match x with
 | .val v=>.ok v
 | .var a=>aq tb g t (.pointer (some a))
def kh (tb:bI) (g:Nat→Option Ob):List FieldStep→TypeId→Pl→R (TypeId×Pl)
 | [],t,x=>.ok (t,x)
 |s::rest,t,x=>
  match tb.bp s.struct with
  |some (.struct fs)=>match fs.toList[s.index]? with
   |some f=>(aY tb f.type).bind fun n=>
    match s.deref with
    |true=>(x.get tb g t).bind fun v=>match v with
     | .pointer (some a)=>match a.spot with
      |none=>bif Yc n 0 then .no 160 else kh tb g rest f.type (.var (jh a f.offset))
      |some _=>.no 161
     |_=>.no 162
    |false=>match x with
     | .var a=>match a.spot with
      |none=>bif Yc n 0 then .no 163 else kh tb g rest f.type (.var (jh a f.offset))
      |some _=>.no 164
     | .val (.agg cs)=>(je tb f.type cs.toList f.offset).bind fun v=>kh tb g rest f.type (.val v)
     | .val _=>.no 165
   |none=>.no 166
  |_=>.no 167
def po (tb:bI) (g:Nat→Option Ob) (xt:TypeId) (x:Pl) (ptr:Bool):R Value:=
 match tb.bp xt,ptr,x with
 |some (.pointer _),true,x=>x.get tb g xt
 |some (.pointer elem),false,x=>(x.get tb g xt).bind fun v=>match v with
  | .pointer (some a)=>aq tb g elem (.pointer (some a))
  |_=>.no 168
 |some _,true,.var a=>.ok (.pointer (some a))
 |some _,true,.val _=>.no 169
 |some _,false,x=>x.get tb g xt
 |none,_,_=>.no 170
def wz (tb:bI) (g:Nat→Option Ob):Nat→TypeId→Value→String→R (FuncId×Value)
 |0,_,_,_=>.no 171
 |d+1,t,v,name=>
  match tb.ty.get t with
  |none=>.no 172
  |some i=>match i.methods.toList.find? (fun m=>m.name==name) with
   |none=>.no 173
   |some m=>(kh tb g m.path.toList t (.val v)).bind fun(xt,x)=>
    match m.func with
    |none=>(x.get tb g xt).bind fun w=>match w with
     | .iface t' v'=>wz tb g d t' v' name
     |_=>.no 174
    |some (f,ptr)=>(po tb g xt x ptr).bind fun r=>.ok (f,r)
inductive Cl where
 |fn (f:FuncId) (args:List Value)
 |round (l:Nat) (args:List Value)
def lX (tb:bI) (g:Nat→Option Ob) (recv:Value) (name:String) (args:List Value):R Cl:=
 match recv with
 | .iface t v=>(wz tb g 100 t v name).bind fun(f,r)=>.ok (.fn f (r::args))
 |_=>.no 180
def jl (tb:bI) (g:Nat→Option Ob) (v:Value) (args:List Value):R Cl:=
 match v with
 | .func (.func f) first captured=>.ok (.fn f (first.toList++args++captured.toList))
 | .func (.yield l) _ _=>.ok (.round l args)
 | .func (.method name) first _=>match first.toList++args with
  |recv::args=>lX tb g recv name args
  | []=>.no 181
 | .func (.methodOf t name) first _=>match first.toList++args with
  |recv::args=>match tb.bp t with
   |some (.interface _)=>lX tb g recv name args
   |some _=>lX tb g (.iface t recv) name args
   |none=>.no 182
  | []=>.no 183
 | .func (.via t path f ptr) first _=>match first.toList++args with
  |x::args=>(kh tb g path.toList t (.val x)).bind fun(xt,x)=>(po tb g xt x ptr).bind fun r=>.ok (.fn f (r::args))
  | []=>.no 184
 |_=>.no 185
def EC {β:Type} (n:Nat) (k:Nat→β):β:=Nat.rec (motive:=fun _=>β) (k 0) (fun m _=>k (qaP m)) n
def TB {β:Type} (n:Int) (k:Int→β) (fn:Nat→(Nat→β)→β):β:=
 match n with
 | .ofNat m=>fn m fun m=>k (.ofNat m)
 | .negSucc m=>fn m fun m=>k (.negSucc m)
def HD {β:Type} (a:Addr) (k:Addr→β):β:=
 match a with
 |⟨b,o,none⟩=>EC b fun b=>EC o fun o=>k ⟨b,o,none⟩
 |a=>k a
def R7 {α β:Type} (l:List α) (k:List α→β):β:=
 List.rec (motive:=fun _=>(List α→β)→β) (fun k=>k []) (fun x _ ih k=>ih fun l=>k (x::l)) l k
def T' {β:Type} (v:Value) (k:Value→β):β:=
 match v with
 | .int kd n=>TB n (fun n=>k (.int kd n)) EC
 | .bool true=>k (.bool true)
 | .bool false=>k (.bool false)
 | .pointer (some a)=>HD a fun a=>k (.pointer (some a))
 | .slice (some a) len cap=>HD a fun a=>EC len fun len=>EC cap fun cap=>k (.slice (some a) len cap)
 | .agg ⟨l⟩=>R7 l fun l=>k (.agg ⟨l⟩)
 |v=>k v
theorem wj {β:Type} (n:Nat) (k:Nat→β):EC n k=k n:=by cases n<;>rfl
theorem Mo {α β:Type} (l:List α):∀(k:List α→β),R7 l k=k l:=by
 induction l with
 |nil=>exact fun _=>rfl
 |cons x l ih=>exact fun k=>ih _
theorem Rh {β:Type} (n:Int) (k:Int→β):TB n k EC=k n:=by cases n<;>simp [TB,wj]
theorem MC {β:Type} (a:Addr) (k:Addr→β):HD a k=k a:=by
 obtain⟨b,o,s⟩:=a;cases s<;>simp [HD,wj]
theorem Bk {β:Type} (v:Value) (k:Value→β):T' v k=k v:=by
 unfold T';split<;>simp [Rh,MC,wj,Mo]
structure St where
 t:T Value
 n:Nat
 d:List Nat
 m:Mem
 ro:Option Nat
inductive Ex where
 |nrm
 |exit (id:Nat)
 |ret
 |i_ (v:Value)
def ev (t:T Value) (x:Operand):R Value:=
 match x with
 | .tmp i=>match t.get i with
  |some v=>.ok v
  |none=>.no 200
 | .const v=>bif gV 3 v then .ok v else .no 199
 | .func f=>.ok (.func (.func f) ⟨[]⟩ ⟨[]⟩)
 | .global _=>.no 201
def oV (t:T Value):List Operand→R (List Value)
 | []=>.ok []
 |x::xs=>(ev t x).bind fun v=>(oV t xs).bind fun vs=>.ok (v::vs)
def D_ (t:T Value) (x:Option Operand):R (Option Value):=
 match x with
 |none=>.ok none
 |some x=>(ev t x).bind fun v=>.ok (some v)
def Hc (t:T Value):List (Nat×Operand)→R (List (Nat×Value))
 | []=>.ok []
 |(i,x)::xs=>(ev t x).bind fun v=>(Hc t xs).bind fun vs=>.ok ((i,v)::vs)
inductive Xz where
 |P|Rd|Al|L
 deriving DecidableEq
def jw:Option TypeDesc→Bool
 |some .bool|some (.int _)|some .string=>true
 |_=>false
def cls (tb:bI) (o:Op):Xz:=
 match o with
 | .indexAddr _ x _=>match x with
  | .global _=>.Rd
  |_=>.P
 | .move _| .assign _| .pick ..| .build ..| .unOp ..| .makeInterface ..| .makeFunc ..| .fieldAddr ..| .field ..| .index ..| .extract ..
 | .slice ..| .typeAssert ..| .nilCheck _=>.P
 | .binOp op t _ _ _=>match op with
  | .eql| .neq=>bif jw (tb.bp t) then .P else .Rd
  |_=>.P
 | .convert s d _=>match tb.bp s,tb.bp d with
  |some .string,some (.slice _)=>.Al
  |some (.slice _),some .string=>.Rd
  |some (.pointer _),_=>.Rd
  |some .unsafePointer,_=>.Rd
  |_,_=>.P
 | .load ..| .lookup ..=>.Rd
 | .alloc _| .box ..| .buildSlice ..| .makeMap ..| .makeSlice ..=>.Al
 | .call c=>match c.callee with
  | .builtin b=>match b with
   | .cap| .min| .max=>.P
   | .unsafeSliceData=>.P
   | .len=>match c.argTypes.toList with
    |t::_=>match tb.bp t with
     |some (.map _ _)=>.Rd
     |_=>.P
    | []=>.L
   |_=>.L
  |_=>.L
 |_=>.L
def Eu (tb:bI) (t:TypeId) (x:Value):R Value:=
 match tb.bp t,x with
 |some .string,.string s=>.ok (.int .i64 (.ofNat s.data.toList.length))
 |some (.array n _),_=>.ok (.int .i64 (.ofNat n))
 |some (.slice _),.slice _ n _=>.ok (.int .i64 (.ofNat n))
 |some (.slice _),.complex .f32 0 0=>.ok (.int .i64 (.ofNat 0))
 |_,_=>.no 202
def N7 (tb:bI) (t:TypeId) (x:Value):R Value:=
 match tb.bp t,x with
 |some (.array n _),_=>.ok (.int .i64 (.ofNat n))
 |some (.slice _),.slice _ _ c=>bif eA c then .ok (.int .i64 (.ofNat (bN c))) else .ok (HC (bN c))
 |_,_=>.no 204
def aO (tb:bI) (b:Builtin) (ts:List TypeId) (args:List Value):R Value:=
 match b,ts,args with
 | .len,t::_,x::_=>Eu tb t x
 | .cap,t::_,x::_=>N7 tb t x
 | .min,_,x::l=>jc u6 x l
 | .max,_,x::l=>jc uO x l
 | .unsafeSliceData,_,[.slice (some a) _ c]=>bif Ye 0 (bN c) then .ok (.pointer (some a)) else .no 205
 | .unsafeSliceData,_,[.slice none _ _]=>.ok (.pointer none)
 |_,_,_=>.no 206
def th (tb:bI) (t:T Value) (o:Op):R Value:=
 match o with
 | .move x=>ev t x
 | .assign x=>ev t x
 | .pick c a b=>(ev t c).bind fun c=>match c with
  | .bool true=>ev t a
  | .bool false=>ev t b
  |_=>.no 207
 | .build ty ps=>(Hc t ps.toList).bind fun ps=>cr tb ty ps
 | .unOp op _ x=>(ev t x).bind fun x=>Uw op x
 | .makeInterface ty x=>(ev t x).bind fun x=>match tb.bp ty with
  |some (.interface _)=>.no 208
  |some _=>.ok (.iface ty x)
  |none=>.no 209
 | .makeFunc fn a b=>(oV t a.toList).bind fun a=>(oV t b.toList).bind fun b=>match fn with
  | .yield _=>.no 210
  |fn=>.ok (.func fn ⟨a⟩ ⟨b⟩)
 | .fieldAddr ty x i=>(ev t x).bind fun x=>ax tb ty x i
 | .field ty x i=>(ev t x).bind fun x=>tU tb ty x i
 | .indexAddr ty x i=>(ev t x).bind fun x=>(ev t i).bind fun i=>aZ tb ty x i
 | .index ty x i=>(ev t x).bind fun x=>(ev t i).bind fun i=>mV tb ty x i
 | .extract x i=>(ev t x).bind fun x=>match x with
  | .tuple vs=>match vs.toList[i]? with
   |some v=>.ok v
   |none=>.no 211
  |_=>.no 212
 | .slice ty x lo hi mx=>(ev t x).bind fun x=>(D_ t lo).bind fun lo=>(D_ t hi).bind fun hi=>(D_ t mx).bind fun mx=>dj tb ty x lo hi mx
 | .typeAssert x _ ty ok=>(ev t x).bind fun x=>pg tb x ty ok
 | .nilCheck x=>(ev t x).bind fun x=>match x with
  | .pointer (some a)=>.ok (.pointer (some a))
  | .iface a b=>.ok (.iface a b)
  | .map a=>.ok (.map a)
  | .func (.func f) a b=>.ok (.func (.func f) a b)
  | .func (.yield f) a b=>.ok (.func (.yield f) a b)
  |_=>.no 213
 | .binOp op ty x y _=>(ev t x).bind fun x=>(ev t y).bind fun y=>hZ op (tb.bp ty) x y
 | .convert s d x=>(ev t x).bind fun x=>gj tb s d x
 | .call c=>match c.callee with
  | .builtin b=>(oV t c.args.toList).bind fun args=>aO tb b c.argTypes.toList args
  |_=>.no 214
 |_=>.no 215
def cY (tb:bI) (g:Nat→Option Ob) (s d:TypeId) (x:Value):R Value:=
 match tb.bp s,tb.bp d,x with
 |some (.slice e),some .string,x=>match tb.bp e with
  |some (.int .u8)=>ik g x
  |_=>.no 216
 |some (.pointer ty),some .unsafePointer,.pointer (some a)=>match a.spot,g a.block with
  |none,some (.cells _ (.var n) _ _)=>(aY tb ty).bind fun sz=>bif Ye a.off n&&Ye 0 sz then .ok (.pointer (some a)) else .no 217
  |_,_=>.no 218
 |some .unsafePointer,some (.pointer ty),.pointer (some a)=>match a.spot,g a.block with
  |none,some (.cells e (.var n) _ _)=>(aY tb ty).bind fun _=>bif liesAt tb.P tb.P.depth e (n/tb.P.cellsOf e) a.off ty 1 then .ok (.pointer (some a)) else .no 219
  |_,_=>.no 220
 |_,_,_=>.no 221
def nf (tb:bI) (t:T Value) (g:Nat→Option Ob) (o:Op):R Value:=
 match o with
 | .load ty x=>match x with
  | .global k=>(HX g k).bind fun x=>aq tb g ty x
  |x=>(ev t x).bind fun x=>aq tb g ty x
 | .indexAddr ty x i=>match x with
  | .global k=>(HX g k).bind fun x=>(ev t i).bind fun i=>aZ tb ty x i
  |_=>.no 224
 | .lookup ty x k ok=>(ev t x).bind fun x=>(ev t k).bind fun k=>fx tb g ty x k ok
 | .binOp op ty x y _=>(ev t x).bind fun a=>(ev t y).bind fun b=>u_ tb g op ty x y a b
 | .convert s d x=>(ev t x).bind fun x=>cY tb g s d x
 | .call c=>match c.callee with
  | .builtin .len=>(oV t c.args.toList).bind fun args=>match args with
   |x::_=>(iB g x).bind fun es=>.ok (.int .i64 (.ofNat es.length))
   | []=>.no 222
  |_=>.no 223
 |_=>.no 224
def CZ (tb:bI) (t:T Value) (o:Op):R (Ob×Way):=
 match o with
 | .alloc e=>(b7 tb e).bind fun z=>.ok (aa e z.cells.toList,.ptr)
 | .box e x=>(ev t x).bind fun v=>.ok (aa e v.cells.toList,.ptr)
 | .buildSlice ty len ps=>(Hc t ps.toList).bind fun ps=>bc tb ty len ps
 | .makeMap ty r=>(D_ t r).bind fun r=>fq tb ty r
 | .makeSlice ty l c=>(ev t l).bind fun l=>(ev t c).bind fun c=>eL tb ty l c
 | .convert s d x=>(ev t x).bind fun x=>jt tb s d x
 |_=>.no 225
inductive Fv where
 |val (v:Value) (m:Mem)
 |i_ (v:Value) (m:Mem)
def gz (tb:bI) (A:Mem) (b:Builtin) (ts:List TypeId) (args:List Value):R (Value×Mem):=
 match b,ts,args with
 | .append,st::xt::_,s::x::_=>bk tb A st xt s x
 | .copy,dt::_,d::s::_=>IE tb A dt d s
 | .clear,ty::_,x::_=>BY tb A ty x
 | .delete,ty::_,m::k::_=>wN tb A ty m k
 | .unsafeString,ty::_,[x,n]=>xK tb A ty x n
 |_,_,_=>.no 226
def Ge (tb:bI) (t:T Value) (A:Mem) (o:Op):R (Value×Mem):=
 match o with
 | .store ty x v=>(ev t x).bind fun x=>(ev t v).bind fun v=>(aW tb A ty x v).bind fun A'=>.ok (cM,A')
 | .mapUpdate ty m k v=>(ev t m).bind fun m=>(ev t k).bind fun k=>(ev t v).bind fun v=>(cF tb A ty m k v).bind fun A'=>.ok (cM,A')
 | .insert ty m k v=>(ev t m).bind fun m=>(ev t k).bind fun k=>(ev t v).bind fun v=>(cF tb A ty m k v).bind fun A'=>.ok (cM,A')
 | .range ty x=>(ev t x).bind fun x=>tu tb A ty x
 | .next x isS=>(ev t x).bind fun x=>H5 A x isS
 | .entry x=>(ev t x).bind fun x=>CB A x
 | .call c=>match c.callee with
  | .builtin b=>(oV t c.args.toList).bind fun args=>gz tb A b c.argTypes.toList args
  |_=>.no 227
 |_=>.no 228
def NG (A:Mem) (a b:Addr):R Unit:=
 match a.spot,b.spot,A.get a.block,A.get b.block with
 |none,none,some (.cells _ (.var _) _ _),some (.cells _ _ _ c)=>match c.get 0 with
  |some _=>bif Yc a.block b.block then .no 230 else .ok ()
  |none=>.no 230
 |_,_,_,_=>.no 231
def ra (c:Nat):List UInt8→Nat→Nat
 | [],n=>n
 |x::l,n=>bif Yc x.toNat c then ra c l (n+1) else ra c l n
def w6 (c:Nat):List UInt8→Nat→Int
 | [],_=>.negSucc 0
 |x::l,n=>bif Yc x.toNat c then .ofNat n else w6 c l (n+1)
def Cy (tb:bI) (k:Nat) (fn:Func) (args:List Value) (A:Mem):R (Value×Mem):=
 match k,args with
 |1,[x]=>.ok (x,A)
 |2,[.slice (some a) _ _,.slice (some b) _ _]=>match fn.params.toList,fn.resultTypes.toList with
  | [p,q],[_]=>match tb.bp p with
   |some (.slice e)=>(aY tb e).bind fun _=>bif Yc p q then(NG A a b).bind fun _=>.ok (.bool false,A) else .no 231
   |_=>.no 232
  |_,_=>.no 233
 |3,[.int .i64 (.ofNat n)]=>match fn.resultTypes.toList with
  |p::_=>match tb.bp p with
   |some (.slice e)=>bif X5 n 1048576&&(match tb.bp e with|some (.int .u8)=>true|_=>false) then
    .ok (.slice (some ⟨A.next,0,none⟩) n (fe n 1),A.alloc (.cells e .row 0 (T.bJ .e 0 (YP n (.chan (some 0)))))) else .no 234
   |_=>.no 235
  | []=>.no 236
 |4,[.iface t (.map (some r))]=>match A.get r with
  |some (.map es clock)=>.ok (.iface t (.map (some A.next)),A.alloc (.map es clock))
  |_=>.no 237
 |5,[.int .u64 (.ofNat x),.int .u64 (.ofNat y),.int .u64 (.ofNat c)]=>bif X5 c 1 then
  .ok (.tuple ⟨[.int .u64 (.ofNat ((x+y+c) % 18446744073709551616)),.int .u64 (.ofNat ((x+y+c)/18446744073709551616))]⟩,A) else .no 260
 |6,[.string s,.int .u8 (.ofNat c)]=>bif Ye c 256 then .ok (.int .i64 (.ofNat (ra c s.data.toList 0)),A) else .no 261
 |7,[.string s,.int .u8 (.ofNat c)]=>bif Ye c 256 then .ok (.int .i64 (w6 c s.data.toList 0),A) else .no 262
 |_,_=>.no 238
def fj (tb:bI) (t:T Value) (g:Nat→Option Ob):List ResultVar→R (List Value)
 | []=>.ok []
 | .tmp i::rs=>(ev t (.tmp i)).bind fun v=>(fj tb t g rs).bind fun vs=>.ok (v::vs)
 | .cell i ty::rs=>(ev t (.tmp i)).bind fun a=>(aq tb g ty a).bind fun v=>(fj tb t g rs).bind fun vs=>.ok (v::vs)
def oneOf (vs:List Value):Value:=
 match vs with
 | [v]=>v
 |vs=>.tuple ⟨vs⟩
def fc:List Nat→Mem→R Mem
 | [],A=>.ok A
 |b::bs,A=>match A.get b with
  |some .defd=>fc bs (A.set b .dead)
  |_=>.no 240
def setArgs (n:Nat):List Tmp→List Value→T Value→R (T Value)
 | [],[],t=>.ok t
 |p::ps,v::vs,t=>bif Ye p n then setArgs n ps vs (t.set p v) else .no 241
 |_,_,_=>.no 242
section
variable (tb:bI) (ih:Code→St→R (Ex×St))
def rf (l:Nat) (args:List Value) (A:Mem):R Fv:=
 match A.get l with
 |some (.loop r)=>
  (setArgs r.n r.params args r.tmps).bind fun t=>
  (ih r.assign {t,n:=r.n,d:=[],m:=A,ro:=some l}).bind fun(e,s1)=>
  match e,s1.m.get l with
  | .nrm,some (.loop r1)=>
   match r1.state with
   | .ready=>
    (ih r.body {s1 with m:=s1.m.set l (.loop {r1 with state:=.busy})}).bind fun(e,s2)=>
    match e,s2.d,s2.m.get l with
    | .nrm,[],some (.loop r2)=>.ok (.val (.bool true) (s2.m.set l (.loop {r2 with state:=.ready,pending:=none})))
    | .exit id,[],some (.loop r2)=>.ok (.val (.bool false) (s2.m.set l (.loop {r2 with state:=.done,pending:=some (.exit id)})))
    | .ret,[],some (.loop r2)=>.ok (.val (.bool false) (s2.m.set l (.loop {r2 with state:=.done,pending:=some .ret})))
    |_,_,_=>.no 243
   |_=>.no 244
  |_,_=>.no 245
 |_=>.no 246
def lM (fn:Func) (c:Code) (args:List Value) (A:Mem):R Fv:=
 bif X5 args.length fn.ntmps then
  (ih c {t:=T.bJ .e 0 args,n:=fn.ntmps,d:=[],m:=A,ro:=none}).bind fun(e,s)=>
  match e with
  | .i_ v=>match s.d with
   | []=>.ok (.i_ v s.m)
   |_=>.no 239
  | .exit _=>.no 248
  |_=>(fc s.d s.m).bind fun A'=>(fj tb s.t A'.get fn.results.toList).bind fun vs=>.ok (.val (oneOf vs) A')
 else .no 249
def bg (c:Cl) (A:Mem):R Fv:=
 match c with
 | .round l args=>rf ih l args A
 | .fn f args=>match tb.fn.get f with
  |none=>.no 247
  |some fn=>bif fn.name== "runtime.NumGoroutine" then .no 256 else match fn.body with
   |none=>match tb.ex.get f with
    |some k=>(Cy tb k fn args A).bind fun(v,A')=>.ok (.val v A')
    |none=>.no (1000+f)
   |some c=>match tb.hk.get f with
    |some h=>(h args A).bind fun(v,A')=>.ok (.val v A')
    |none=>lM tb ih fn c args A
def bP (s:St) (dst:Option Tmp) (v:Value) (k:St→R (Ex×St)):R (Ex×St):=
 match dst with
 |none=>k s
 |some d=>bif Ye d s.n then T' v fun v=>k {s with t:=s.t.set d v} else .no 250
def yh (t:T Value) (g:Nat→Option Ob) (c:Call):R Cl:=
 (oV t c.args.toList).bind fun args=>
 match c.callee with
 | .value f=>(ev t f).bind fun f=>jl tb g f args
 | .invoke r name=>(ev t r).bind fun r=>lX tb g r name args
 | .builtin _=>.no 251
def ie (o:Op):Option Call:=
 match o with
 | .call c=>match c.callee with
  | .builtin _=>none
  |_=>some c
 |_=>none
def dI (o:Oper) (s:St) (k:St→R (Ex×St)):R (Ex×St):=
 match ie o.op with
 |some c=>(yh tb s.t s.m.get c).bind fun cl=>(bg tb ih cl s.m).bind fun r=>match r with
  | .val v A=>bP {s with m:=A} o.dst v k
  | .i_ v A=>.ok (.i_ v,{s with m:=A})
 |none=>match cls tb o.op with
  | .P=>(th tb s.t o.op).bind fun v=>bP s o.dst v k
  | .Rd=>(nf tb s.t s.m.get o.op).bind fun v=>bP s o.dst v k
  | .Al=>(CZ tb s.t o.op).bind fun(ob,way)=>bP {s with m:=s.m.alloc ob} o.dst (way.at s.m.next) k
  | .L=>match o.op with
   | .panic x=>(ev s.t x).bind fun x=>match x with
    | .iface t v=>.ok (.i_ (.iface t v),s)
    |_=>.no 252
   |_=>(Ge tb s.t s.m o.op).bind fun(v,A)=>bP {s with m:=A} o.dst v k
def e_ (ops:List Oper) (o:Oper) (t:T Value):R Bool:=
 match o.guard with
 |none=>.ok true
 |some (j,want)=>match ops[j]? with
  |some oj=>match oj.dst with
   |some d=>match t.get d with
    |some (.bool b)=>.ok (bif b then want else !want)
    |some (.tuple _)=>.ok false
    |some _=>.no 257
    |none=>.no 253
   |none=>.no 254
  |none=>.no 255
def dV (ops:List Oper) (l:List Oper):St→R (Ex×St):=
 List.rec (motive:=fun _=>St→R (Ex×St)) (fun s=>.ok (.nrm,s))
  (fun o _ next s=>(e_ ops o s.t).bind fun w=>bif w then dI tb ih o s next else bP s o.dst cM next) l
end
def tE (acc:List Nat):List Edge→R Nat
 | []=>.ok 0
 |e::es=>(tE acc es).bind fun m=>
  bif Region.binds .any e then
   match acc[e.on]? with
   |some a=>.ok (Nat.lor (Nat.lor (Nat.shiftLeft 1 e.on) a) m)
   |none=>.no 300
  else .ok m
def LX:Operand→List Tmp
 | .tmp t=>[t]
 |_=>[]
def jg (ops:List Oper) (o:Oper):List Tmp:=
 (o.op.operands.toList.flatMap LX)++(match o.guard with
  |some (j,_)=>match ops[j]? with
   |some oj=>oj.dst.toList
   |none=>[]
  |none=>[])
def jP (a b:List Nat):Bool:=a.any fun x=>b.any fun y=>Yc x y
structure Fs where
 m:Nat
 c:Xz
 w:List Tmp
 r:List Tmp
def Dz (tb:bI) (ops:List Oper):List Oper→List Nat→R (List Fs)
 | [],_=>.ok []
 |o::os,acc=>(tE acc o.after.toList).bind fun m=>EC m fun m=>(Dz tb ops os (acc++[m])).bind fun l=>
  .ok ({m,c:=cls tb o.op,w:=o.dst.toList,r:=jg ops o}::l)
def O' (i:Nat) (a:Fs) (j:Nat) (b:Fs):R (List (Nat×Nat)):=
 bif Nat.testBit b.m i then .ok []
 else bif jP a.w b.w||jP a.w b.r||jP a.r b.w then .no 301
 else match a.c,b.c with
  | .L,.L=>.no 302
  | .Rd,.L=>.ok [(i,j)]
  | .L,.Rd=>.ok [(j,i)]
  | .Al,.L=>.ok [(i,j)]
  |_,_=>.ok []
def wI (j:Nat) (b:Fs):List Fs→Nat→R (List (Nat×Nat))
 | [],_=>.ok []
 |a::l,i=>(O' i a j b).bind fun p=>(wI j b l (i+1)).bind fun q=>.ok (p++q)
def CU (all:List Fs):List Fs→Nat→R (List (Nat×Nat))
 | [],_=>.ok []
 |b::l,j=>(wI j b (all.take j) 0).bind fun p=>(CU all l (j+1)).bind fun q=>.ok (p++q)
def gR (tb:bI) (ops:List Oper):R (List (Nat×Nat)):=
 (Dz tb ops ops []).bind fun l=>CU l l 0
def rL (a b:Option Nat):Bool:=
 match a,b with
 |none,none=>true
 |some a,some b=>Yc a b
 |_,_=>false
def xD (a b:Addr):Bool:=Yc a.block b.block&&Yc a.off b.off&&rL a.spot b.spot
def Fw (a b:Fn):Bool:=
 match a,b with
 | .func f,.func g=>Yc f g
 | .yield f,.yield g=>Yc f g
 |_,_=>false
def cD:Nat→Value→Value→Bool
 |0,_,_=>false
 |d+1,a,b=>
  let all:List Value→List Value→Bool:=fun l m=>Yc l.length m.length&&(l.zip m).all fun(x,y)=>cD d x y
  match a,b with
  | .bool true,.bool true=>true
  | .bool false,.bool false=>true
  | .int k x,.int k' y=>dS k k'&&mL x y
  | .string x,.string y=>eJ x.data.toList y.data.toList
  | .pointer none,.pointer none=>true
  | .pointer (some x),.pointer (some y)=>xD x y
  | .slice none l c,.slice none l' c'=>Yc l l'&&Yc c c'
  | .slice (some x) l c,.slice (some y) l' c'=>xD x y&&Yc l l'&&Yc c c'
  | .map x,.map y=>rL x y
  | .chan x,.chan y=>rL x y
  | .nilFunc,.nilFunc=>true
  | .nilIface,.nilIface=>true
  | .iface t x,.iface u y=>Yc t u&&cD d x y
  | .func f x y,.func g x' y'=>Fw f g&&all x.toList x'.toList&&all y.toList y'.toList
  | .agg x,.agg y=>all x.toList y.toList
  | .tuple x,.tuple y=>all x.toList y.toList
  | .complex .f32 0 0,.complex .f32 0 0=>true
  |_,_=>false
def b6 (r l:Nat) (fl:List (Nat×Nat)):Bool:=fl.any fun p=>Yc p.1 r&&Yc p.2 l
structure Rec where
 i:Nat
 t:T Value
 o:Op
 v:Value
def dY (tb:bI) (g:Nat→Option Ob) (x:Rec):Bool:=
 match nf tb x.t g x.o with
 | .ok v=>cD 100 v x.v
 | .no _=>false
section
variable (tb:bI) (ih:Code→St→R (Ex×St))
def yc (b:Nat) (o:Option Ob) (l:List (Nat×Mem)):List (Nat×Mem):=
 match o with
 |some o=>l.map fun m=>(m.1,m.2.set b o)
 |none=>l
def eS:List Nat→Mem→Mem
 | [],A=>A
 |b::bs,A=>eS bs (A.set b .dead)
def gF (g:Nat→Option Ob):List Nat→Mem→R Mem
 | [],A=>.ok A
 |b::bs,A=>match g b with
  |some o=>gF g bs (A.set b o)
  |none=>.no 313
def dU (ops:List Oper) (fl:List (Nat×Nat)) (l:List Oper):(i:Nat)→(mems:List (Nat×Mem))→(recs:List Rec)→(mks:List (Nat×Nat))→St→R (Ex×St):=
 List.rec (motive:=fun _=>Nat→List (Nat×Mem)→List Rec→List (Nat×Nat)→St→R (Ex×St)) (fun _ _ _ _ s=>.ok (.nrm,s))
  (fun o _ next i mems recs mks s=>(e_ ops o s.t).bind fun w=>
   bif w then
    match cls tb o.op with
    | .L=>dI tb ih o {s with m:=eS ((mks.filter fun x=>b6 x.1 i fl).map (·.2)) s.m} fun s'=>
     (gF s.m.get ((mks.filter fun x=>b6 x.1 i fl).map (·.2)) s'.m).bind fun A=>
     bif (recs.filter fun x=>b6 x.i i fl).all (dY tb A.get) then next (i+1) ((i,s.m)::mems) recs mks {s' with m:=A} else .no 310
    | .Rd=>(nf tb s.t s.m.get o.op).bind fun v=>
     bif (mems.filter fun m=>b6 i m.1 fl).all (fun m=>dY tb m.2.get ⟨i,s.t,o.op,v⟩) then bP s o.dst v (next (i+1) mems (⟨i,s.t,o.op,v⟩::recs) mks) else .no 311
    | .Al=>dI tb ih o s fun s'=>next (i+1) (yc s.m.next (s'.m.get s.m.next) mems) recs ((i,s.m.next)::mks) s'
    | .P=>dI tb ih o s (next (i+1) mems recs mks)
   else bP s o.dst cM (next (i+1) mems recs mks)) l
def regionF (ops:List Oper) (draw:Bool) (s:St):R (Ex×St):=
 bif draw then
  (gR tb ops).bind fun fl=>(dU tb ih ops fl ops 0 [] [] [] s).bind fun(e,s)=>
  match e with
  | .nrm=>.ok (.nrm,s)
  |_=>.no 312
 else dV tb ih ops ops s
def gv (f:Operand) (params:List Tmp) (assign body:Code) (fnId:FuncId) (s:St):R (Ex×St):=
 (ev s.t f).bind fun fv=>
 (match s.ro with
  |some l=>match s.m.get l with
   |some (.loop r)=>R.ok (r.defers,s.m,([]:List Nat))
   |_=>.no 320
  |none=>.ok (s.m.next,s.m.alloc .defd,[s.m.next])).bind fun(dfb,A,mark)=>
 let lid:=A.next
 let A:=A.alloc (.loop {state:=.ready,pending:=none,fn:=fnId,tmps:=s.t,n:=s.n,params,assign,body,defers:=dfb})
 (jl tb A.get fv [.func (.yield lid) ⟨[]⟩ ⟨[]⟩]).bind fun c=>(bg tb ih c A).bind fun r=>
 match r with
 | .i_ _ _=>.no 324
 | .val _ A=>match A.get lid with
  |some (.loop r)=>
   let s':St:={s with m:=A.set lid (.loop {r with state:=.exhausted}),d:=mark++s.d}
   match r.state,r.pending with
   | .busy,_=>.no 321
   |_,none=>.ok (.nrm,s')
   |_,some (.exit id)=>.ok (.exit id,s')
   |_,some .ret=>.ok (.ret,s')
   |_,some _=>.no 322
  |_=>.no 323
def ND (c:Code) (s:St):R (Ex×St):=
 match c with
 | .skip=>.ok (.nrm,s)
 | .label _=>.ok (.nrm,s)
 | .region _ ops draw=>regionF tb ih ops.toList draw s
 | .seq a b=>(ih a s).bind fun(e,s')=>match e with
  | .nrm=>ih b s'
  |e=>.ok (e,s')
 | .cond c a b=>(ev s.t c).bind fun v=>match v with
  | .bool true=>ih a s
  | .bool false=>ih b s
  |_=>.no 330
 | .block id c=>(ih c s).bind fun(e,s')=>match e with
  | .exit i=>bif Yc i id then .ok (.nrm,s') else .ok (.exit i,s')
  |e=>.ok (e,s')
 | .loop c=>(ih c s).bind fun(e,s')=>match e with
  | .nrm=>ih (.loop c) s'
  |e=>.ok (e,s')
 | .scope c=>ih c s
 | .exit id=>.ok (.exit id,s)
 | .ret=>.ok (.ret,s)
 | .rangeFunc f ps a b=>gv tb ih f ps.toList a b 0 s
 | .goto _=>.no 331
 | .refuse _=>.no 332
end
def exec (tb:bI) (n:Nat):Code→St→R (Ex×St):=
 Nat.rec (motive:=fun _=>Code→St→R (Ex×St)) (fun _ _=>.no 0) (fun _ ih=>ND tb ih) n
def call (tb:bI) (n:Nat) (f:FuncId) (args:List Value) (A:Mem):R Fv:=
 match tb.fn.get f with
 |none=>.no 400
 |some fn=>match fn.body with
  |none=>.no 401
  |some c=>lM tb (exec tb n) fn c args A
structure Loc where
 blk:Nat
 sh:Nat
 sz:Nat
abbrev da:=Nat→Option Loc
def Dy:Fn→Prop
 | .yield _=>False
 |_=>True
mutual
inductive VR (ι:da):Value→Value→Prop
 |bool (b:Bool):VR ι (.bool b) (.bool b)
 |int (k:IntKind) (n:Int):VR ι (.int k n) (.int k n)
 |string (s:ByteArray):VR ι (.string s) (.string s)
 |ptrN:VR ι (.pointer none) (.pointer none)
 |ptr {b o:Nat} {l:Loc} (h:ι b=some l):VR ι (.pointer (some ⟨b,o,none⟩)) (.pointer (some ⟨l.blk,o+l.sh,none⟩))
 |slN:VR ι (.slice none 0 0) (.slice none 0 0)
 |sl {b o len k:Nat} {l:Loc} (h:ι b=some l) (hk:eA k=true):VR ι (.slice (some ⟨b,o,none⟩) len k) (.slice (some ⟨l.blk,o+l.sh,none⟩) len (bN k))
 |slX {b o o' len k cap':Nat} {l:Loc} (h:ι b=some l) (hk:eA k=false) (hc:bN k≤cap') (hsz:o'+cap'*iQ k≤l.sz)
  (ho:0<cap'→o'=o+l.sh) (hb:cap'<2^63) (hl:len≤bN k):VR ι (.slice (some ⟨b,o,none⟩) len k) (.slice (some ⟨l.blk,o',none⟩) len cap')
 |mapN:VR ι (.map none) (.map none)
 |map {b:Nat} {l:Loc} (h:ι b=some l):VR ι (.map (some b)) (.map (some l.blk))
 |func {fn:Fn} {a b a' b':Array Value} (hf:Dy fn) (ha:dH ι a.toList a'.toList) (hb:dH ι b.toList b'.toList):VR ι (.func fn a b) (.func fn a' b')
 |yield {b:Nat} {l:Loc} (h:ι b=some l):VR ι (.func (.yield b) ⟨[]⟩ ⟨[]⟩) (.func (.yield l.blk) ⟨[]⟩ ⟨[]⟩)
 |nilFunc:VR ι .nilFunc .nilFunc
 |nilIface:VR ι .nilIface .nilIface
 |iface {t:TypeId} {v v':Value} (h:VR ι v v'):VR ι (.iface t v) (.iface t v')
 |agg {a a':Array Value} (h:dH ι a.toList a'.toList):VR ι (.agg a) (.agg a')
 |tuple {a a':Array Value} (h:dH ι a.toList a'.toList):VR ι (.tuple a) (.tuple a')
 |unk {v':Value} (h:aJ v'=true):VR ι (.chan (some 0)) v'
 |least {n m:Nat} (h:n≤m) (hm:m<2^63):VR ι (.complex .f64 n 0) (.int .i64 (.ofNat m))
 |emp (a:Addr):VR ι (.complex .f32 0 0) (.slice (some a) 0 0)
inductive dH (ι:da):List Value→List Value→Prop
 |nil:dH ι [] []
 |cons {v v':Value} {l l':List Value} (h:VR ι v v') (ht:dH ι l l'):dH ι (v::l) (v'::l')
end
def eI (ι ι':da):Prop:=∀b l,ι b=some l→ι' b=some l
theorem eI.trans {a b c:da} (h:eI a b) (k:eI b c):eI a c:=fun x l hx=>k x l (h x l hx)
mutual
theorem VR.mono {ι ι':da} (hi:eI ι ι') {v v':Value} (h:VR ι v v'):VR ι' v v':=by
 cases h with
 |bool b=>exact .bool b
 |int k n=>exact .int k n
 |string s=>exact .string s
 |ptrN=>exact .ptrN
 |ptr h=>exact .ptr (hi _ _ h)
 |slN=>exact .slN
 |sl h hk=>exact .sl (hi _ _ h) hk
 |slX h hk hc hsz ho hb hl=>exact .slX (hi _ _ h) hk hc hsz ho hb hl
 |mapN=>exact .mapN
 |map h=>exact .map (hi _ _ h)
 |func hf ha hb=>exact .func hf (dH.mono hi ha) (dH.mono hi hb)
 |yield h=>exact .yield (hi _ _ h)
 |nilFunc=>exact .nilFunc
 |nilIface=>exact .nilIface
 |iface h=>exact .iface (VR.mono hi h)
 |agg h=>exact .agg (dH.mono hi h)
 |tuple h=>exact .tuple (dH.mono hi h)
 |unk h=>exact .unk h
 |least h hm=>exact .least h hm
 |emp a=>exact .emp a
theorem dH.mono {ι ι':da} (hi:eI ι ι') {l l':List Value} (h:dH ι l l'):dH ι' l l':=by
 cases h with
 |nil=>exact .nil
 |cons h ht=>exact .cons (VR.mono hi h) (dH.mono hi ht)
end
variable {ι:da}
theorem dH.length:∀{l l':List Value},dH ι l l'→l'.length=l.length
 |_,_,.nil=>rfl
 |_,_,.cons _ ht=>by simp [ht.length]
theorem dH.get:∀{l l':List Value},dH ι l l'→∀(i:Nat) (v:Value),l[i]?=some v→∃v',l'[i]?=some v'∧VR ι v v'
 |_,_,.nil,i,v,h=>by simp at h
 |_,_,.cons h ht,0,v,e=>by simp at e;subst e;exact⟨_,rfl,h⟩
 |_,_,.cons h ht,i+1,v,e=>by
  simp at e;obtain⟨v',e',r⟩:=ht.get i v e;exact⟨v',by simpa using e',r⟩
theorem dH.xc:∀{l l':List Value},l'.length=l.length→(∀(i:Nat) (v v':Value),l[i]?=some v→l'[i]?=some v'→VR ι v v')→dH ι l l'
 | [],[],_,_=>.nil
 | [],_::_,h,_=>by simp at h
 |_::_,[],h,_=>by simp at h
 |v::l,v'::l',h,f=>.cons (f 0 v v' rfl rfl) (dH.xc (by simpa using h) fun i a b ha hb=>f (i+1) a b (by simpa using ha) (by simpa using hb))
theorem dH.append:∀{a a' b b':List Value},dH ι a a'→dH ι b b'→dH ι (a++b) (a'++b')
 |_,_,_,_,.nil,h=>h
 |_,_,_,_,.cons h ht,k=>.cons h (ht.append k)
theorem dH.take:∀{a a':List Value} (n:Nat),dH ι a a'→dH ι (a.take n) (a'.take n)
 |_,_,0,_=>by simpa using .nil
 |_,_,n+1,.nil=>by simpa using .nil
 |_,_,n+1,.cons h ht=>by simpa using .cons h (ht.take n)
theorem dH.drop:∀{a a':List Value} (n:Nat),dH ι a a'→dH ι (a.drop n) (a'.drop n)
 |_,_,0,h=>by simpa using h
 |_,_,n+1,.nil=>by simpa using .nil
 |_,_,n+1,.cons _ ht=>by simpa using ht.drop n
variable {v v':Value}
theorem VR.cells (h:VR ι v v'):dH ι v.cells.toList v'.cells.toList:=by
 have hc:=h;cases h with
 |agg h=>exact h
 |unk h1=>
  have e:v'.cells= #[v']:=by
   cases v'<;>first|rfl|simp [aJ] at h1
  rw [e];exact .cons hc .nil
 |_=>exact .cons hc .nil
theorem VR.one (h:VR ι v v') (h1:aJ v=true):aJ v'=true:=by
 cases h<;>first|rfl|assumption|simp [aJ] at h1
mutual
theorem m9 {ι:da}:∀(d:Nat) (v:Value),gV d v=true→VR ι v v
 |0,_,h=>by simp [gV] at h
 |d+1,v,h=>by
  unfold gV at h;split at h<;>first
   |(constructor;done)
   |exact .iface (m9 d _ h)
   |exact .agg (mF d _ (Ze.1 h))
   |exact .tuple (mF d _ (Ze.1 h))
   |exact .func trivial .nil .nil
   |simp at h
theorem mF {ι:da}:∀(d:Nat) (l:List Value),(∀v∈l,gV d v=true)→dH ι l l
 |d,[],_=>.nil
 |d,v::l,h=>.cons (m9 d v (h v (by simp))) (mF d l fun x hx=>h x (by simp [hx]))
end
def TR (ι:da) (n:Nat) (τ:T Value) (t:Array Value):Prop:=t.size=n∧∀i v,τ.get i=some v→∃v',t[i]?=some v'∧VR ι v v'
variable {ι':da} {n:Nat}
theorem TR.mono (hi:eI ι ι') {τ:T Value} {t:Array Value} (h:TR ι n τ t):TR ι' n τ t:=
 ⟨h.1,fun i v hv=>let⟨v',e,r⟩:=h.2 i v hv;⟨v',e,r.mono hi⟩⟩
variable {d:Nat}
theorem TR.set {τ:T Value} {t:Array Value} (h:TR ι n τ t) (hd:d<n) (hv:VR ι v v'):TR ι n (τ.set d v) (t.setIfInBounds d v'):=by
 refine⟨by simp [h.1],fun i x hx=>?_⟩;rw [T.af] at hx;by_cases hi:i=d
 ·subst hi;rw [if_pos rfl] at hx;cases hx;exact⟨v',by simp [h.1,hd],hv⟩
 ·rw [if_neg hi] at hx;obtain⟨x',e,r⟩:=h.2 i x hx;refine⟨x',?_,r⟩;rw [qa7 (Ne.symm hi)];exact e
inductive zn (ι:da):List MapEntry→List MapEntry→Prop
 |nil:zn ι [] []
 |cons {e e':MapEntry} {l l':List MapEntry} (hk:VR ι e.key e'.key) (hb:e'.born=e.born) (hv:VR ι e.val e'.val) (ht:zn ι l l'):zn ι (e::l) (e'::l')
theorem zn.mono (hi:eI ι ι'):∀{l l':List MapEntry},zn ι l l'→zn ι' l l'
 |_,_,.nil=>.nil
 |_,_,.cons hk hb hv ht=>.cons (hk.mono hi) hb (hv.mono hi) (ht.mono hi)
theorem zn.length:∀{l l':List MapEntry},zn ι l l'→l'.length=l.length
 |_,_,.nil=>rfl
 |_,_,.cons _ _ _ ht=>by simp [ht.length]
structure LR (ι:da) (r:gI) (r':Loop):Prop where
 state:r'.state=r.state
 pending:r'.pending=r.pending
 tmps:TR ι r.n r.tmps r'.tmps
 params:r'.params.toList=r.params
 assign:r'.assign=r.assign
 body:r'.body=r.body
 defers:∃l,ι r.defers=some l∧r'.defers=l.blk
def OR (ι:da) (o:Ob) (l:Loc) (o':Obj):Prop:=
 match o with
 | .cells t x fz c=>∃cs fr,o'= .cells cs t fr∧cs.size=l.sz∧(∀i v,c.get i=some v→∃v',cs[i+l.sh]?=some v'∧VR ι v v')∧
  match x with
  | .var n=>l.sh=0∧l.sz=n∧fr=(0,0)
  | .row=>fr.2≤l.sh+fz
  | .mark=>∀i,i<l.sz→¬(fr.1≤i∧i<fr.2)
  | .room n=>fr.2≤l.sh+fz∧l.sh+n≤l.sz
 | .map es clock=>l.sh=0∧∃es',o'= .map es' clock∧zn ι es es'.toList
 | .sit s pos=>l.sh=0∧o'= .stringIter s pos
 | .mit m c b=>l.sh=0∧∃lm,ι m=some lm∧o'= .mapIter (some lm.blk) c b.toArray c
 | .loop r=>l.sh=0∧∃r',o'= .loop r'∧LR ι r r'
 | .defd=>o'= .deferred (some [])
 | .dead=>True
variable {o':Obj}
theorem OR.mono (hi:eI ι ι') {o:Ob} {l:Loc} (h:OR ι o l o'):OR ι' o l o':=by
 cases o with
 |cells t x fz c=>
  obtain⟨cs,fr,e,h1,h2,h3⟩:=h;exact⟨cs,fr,e,h1,fun i v hv=>let⟨v',e,r⟩:=h2 i v hv;⟨v',e,r.mono hi⟩,h3⟩
 |map es clock=>obtain⟨h0,es',e,h⟩:=h;exact⟨h0,es',e,h.mono hi⟩
 |sit s pos=>exact h
 |mit m c b=>obtain⟨h0,lm,h1,h2⟩:=h;exact⟨h0,lm,hi _ _ h1,h2⟩
 |loop r=>
  obtain⟨h0,r',e,h⟩:=h;obtain⟨ld,hl,hd⟩:=h.defers;exact⟨h0,r',e,⟨h.state,h.pending,h.tmps.mono hi,h.params,h.assign,h.body,ld,hi _ _ hl,hd⟩⟩
 |defd=>exact h
 |dead=>trivial
def alive:Ob→Bool
 | .dead=>false
 |_=>true
def live (A:Mem) (b:Nat):Prop:=∃o,A.get b=some o∧alive o=true
structure Rel (ι:da) (A:Mem) (w:World):Prop where
 wf:∀b,A.next≤b→A.get b=none
 obs:∀b o l,A.get b=some o→alive o=true→ι b=some l→∃o',w.heap[l.blk]?=some o'∧OR ι o l o'
 rng:∀b l,ι b=some l→l.blk<w.heap.size
 inj:∀b b' l l',live A b→live A b'→ι b=some l→ι b'=some l'→l.blk=l'.blk→b=b'
 gl:∀b t k c,A.get b=some (.cells t .row (GB k) c)→∃l,ι b=some l∧l.blk=k∧l.sh=0∧l.sz≤18446744073709551616
def eH (ι:da) (A A':Mem):Prop:=∀b,A.next≤b→b<A'.next→ι b=none
def Still (A:Mem) (b:Nat) (l:Loc):Prop:=b<A.next∧∃t fz c,A.get b=some (.cells t .row fz c)∧9223372036854775808≤fz∧l.sz<fz
structure eC (ι:da) (A:Mem) (w:World) (ι':da) (A':Mem) (w':World):Prop where
 next:A.next≤A'.next
 out:∀b,b<A.next∨A'.next≤b→ι' b=ι b
 src:∀b l,live A' b→ι' b=some l→w.heap.size≤l.blk∨∃b0 l0,live A b0∧ι b0=some l0∧l0.blk=l.blk
 fr:∀c,c<w.heap.size→(∀b l,live A b→ι b=some l→l.blk≠c)→w'.heap[c]?=w.heap[c]?
 size:w.heap.size≤w'.heap.size
 os:w'.os=w.os
 tape:w'.tape=w.tape
 output:w'.output=w.output
 kept:∀b l,ι b=some l→Still A b l→A'.get b=A.get b∧w'.heap[l.blk]?=w.heap[l.blk]?
 drawn:w.drawn≤w'.drawn
variable {A A':Mem} {w w':World}
theorem eC.le (h:eC ι A w ι' A' w') (hf:eH ι A A'):eI ι ι':=by
 intro b l hb;rcases YE b A.next with h1|h1
 ·rw [h.out b (.inl h1)];exact hb
 ·rcases YE b A'.next with h2|h2
  ·rw [hf b h1 h2] at hb;cases hb
  ·rw [h.out b (.inr h2)];exact hb
theorem eC.refl (ι:da) (A:Mem) (w:World):eC ι A w ι A w:=
 ⟨X9 _,fun _ _=>rfl,fun b l hb hl=>.inr ⟨b,l,hb,hl,rfl⟩,fun _ _ _=>rfl,X9 _,rfl,rfl,rfl,fun _ _ _ _=>⟨rfl,rfl⟩,X9 _⟩
theorem eC.trans {ι1 ι2:da} {A1 A2:Mem} {w1 w2:World} (h:eC ι A w ι1 A1 w1) (k:eC ι1 A1 w1 ι2 A2 w2):eC ι A w ι2 A2 w2 where
 next:=YC h.next k.next
 out:=fun b hb=>by
  have:=h.next
  have:=k.next
  rw [k.out b (by omega),h.out b (by omega)]
 src:=fun b l hb hl=>by
  rcases k.src b l hb hl with h1|⟨b0,l0,h1,h2,h3⟩
  ·exact .inl (YC h.size h1)
  ·rcases h.src b0 l0 h1 h2 with h4|⟨b1,l1,h4,h5,h6⟩
   ·exact .inl (by omega)
   ·exact .inr ⟨b1,l1,h4,h5,by omega⟩
 fr:=fun c hc hn=>by
  rw [k.fr c (Yt hc h.size),h.fr c hc hn];intro b l hb hl he;rcases h.src b l hb hl with h1|⟨b0,l0,h1,h2,h3⟩
  ·omega
  ·exact hn b0 l0 h1 h2 (by omega)
 size:=YC h.size k.size
 os:=k.os.trans h.os
 tape:=k.tape.trans h.tape
 output:=k.output.trans h.output
 drawn:=YC h.drawn k.drawn
 kept:=fun b l hl hs=>by
  obtain⟨e1,e2⟩:=h.kept b l hl hs;obtain⟨h1,t,fz,c,h2,h3⟩:=hs;obtain⟨e3,e4⟩:=k.kept b l (by rw [h.out b (.inl h1)];exact hl) ⟨Yt h1 h.next,t,fz,c,by rw [e1];exact h2,h3⟩;exact⟨e3.trans e1,e4.trans e2⟩
theorem eH.left {A1 A2:Mem} (h:eH ι A A2) (k:A1.next≤A2.next):eH ι A A1:=fun b h1 h2=>h b h1 (by omega)
theorem eH.right {ι1:da} {A1 A2:Mem} {w1:World} (h:eH ι A A2) (k:eC ι A w ι1 A1 w1):eH ι1 A1 A2:=fun b h1 h2=>by
 rw [k.out b (.inr h1)];exact h b (YC k.next h1) h2
structure Wu (w w':World) (c:Nat) (o:Obj):Prop where
 size:w.heap.size≤w'.heap.size
 at_:w'.heap[c]?=some o
 ne:∀k,k<w.heap.size→k≠c→w'.heap[k]?=w.heap[k]?
 os:w'.os=w.os
 tape:w'.tape=w.tape
 output:w'.output=w.output
 drawn:w.drawn≤w'.drawn
theorem aL (A:Mem) (b x:Nat) (o:Ob):(A.set b o).get x=if x=b then some o else A.get x:=T.af ..
theorem cG (A:Mem) (x:Nat) (o:Ob):(A.alloc o).get x=if x=A.next then some o else A.get x:=T.af ..
theorem aX (A:Mem) (b:Nat) (o:Ob):(A.set b o).next=A.next:=rfl
theorem ae (A:Mem) (o:Ob):(A.alloc o).next=A.next+1:=rfl
variable {b:Nat}
theorem ef {l:Loc} {o:Ob} (hg:A.get b=some o) (h:∀t fz c,o= .cells t .row fz c→fz<9223372036854775808∨fz≤l.sz):¬Still A b l:=by
 rintro⟨_,t,fz,c,h2,h3,h4⟩;rw [hg] at h2;cases h2;rcases h t fz c rfl with h|h<;>omega
variable {ob:Ob}
theorem Rel.yY {o:Ob} {l:Loc} (h:Rel ι A w) (hg:A.get b=some o) (ha:alive o=true) (hl:ι b=some l) (hns:¬Still A b l) (hgl:∀t k c,ob= .cells t .row (GB k) c→∃t' c',o= .cells t' .row (GB k) c')
 (hw:Wu w w' l.blk o') (hs:w'.heap.size=w.heap.size) (ho:OR ι ob l o'):Rel ι (A.set b ob) w'∧eC ι A w ι (A.set b ob) w':=by
 have hlive:∀x,live (A.set b ob) x→live A x:=by
  rintro x ⟨ox,hx,hal⟩;rw [aL] at hx;by_cases hxb:x=b
  ·subst hxb;exact⟨o,hg,ha⟩
  ·rw [if_neg hxb] at hx;exact⟨ox,hx,hal⟩
 refine⟨⟨fun x hx=>?_,fun x ox lx hx hal hlx=>?_,fun x lx hlx=>by rw [hs];exact h.rng x lx hlx,fun x y lx ly hx hy hlx hly he=>h.inj x y lx ly (hlive x hx) (hlive y hy) hlx hly he,fun x t k c hx=>by
  rw [aL] at hx;by_cases hxb:x=b
  ·subst hxb;rw [if_pos rfl] at hx;obtain⟨t',c',rfl⟩:=hgl t k c (YJ hx);exact h.gl x _ _ _ hg
  ·rw [if_neg hxb] at hx;exact h.gl x _ _ _ hx⟩,
  ⟨X9 _,fun _ _=>rfl,fun x lx hx hlx=>.inr ⟨x,lx,hlive x hx,hlx,rfl⟩,fun c hc hn=>hw.ne c hc ?_,by omega,hw.os,hw.tape,hw.output,fun x lx hlx hsx=>?_,hw.drawn⟩⟩
 ·rw [aX] at hx;rw [aL,if_neg]
  ·exact h.wf x hx
  ·rintro rfl;rw [h.wf x hx] at hg;cases hg
 ·rw [aL] at hx;by_cases hxb:x=b
  ·subst hxb;rw [if_pos rfl] at hx;cases hx;rw [hl] at hlx;cases hlx;exact⟨o',hw.at_,ho⟩
  ·rw [if_neg hxb] at hx;obtain⟨o2,h1,h2⟩:=h.obs x ox lx hx hal hlx;refine⟨o2,?_,h2⟩;rw [hw.ne _ (h.rng x lx hlx)]
   ·exact h1
   ·intro he;exact hxb (h.inj x b lx l ⟨ox,hx,hal⟩ ⟨o,hg,ha⟩ hlx hl he)
 ·rintro rfl;exact hn b l ⟨o,hg,ha⟩ hl rfl
 ·have hxb:x≠b:=by
   rintro rfl;rw [hl] at hlx;cases hlx;exact hns hsx
  obtain⟨_,t,fz,c,h2,_⟩:=hsx;refine⟨by rw [aL,if_neg hxb],hw.ne _ (h.rng x lx hlx) fun he=>hxb (h.inj x b lx l ⟨_,h2,rfl⟩ ⟨o,hg,ha⟩ hlx hl he)⟩
theorem Rel.B8 {sz:Nat} (h:Rel ι A w) (hf:ι A.next=none) (hgl:∀t k c,ob≠ .cells t .row (GB k) c)
 (hw:Wu w w' w.heap.size o') (hs:w'.heap.size=w.heap.size+1)
 (ho:∀ι',eI ι ι'→ι' A.next=some ⟨w.heap.size,0,sz⟩→OR ι' ob ⟨w.heap.size,0,sz⟩ o'):
 ∃ι',ι' A.next=some ⟨w.heap.size,0,sz⟩∧Rel ι' (A.alloc ob) w'∧eC ι A w ι' (A.alloc ob) w':=by
 let ι':da:=fun b=>if b=A.next then some ⟨w.heap.size,0,sz⟩ else ι b
 have hin:ι' A.next=some ⟨w.heap.size,0,sz⟩:=if_pos rfl
 have hne:∀b,b≠A.next→ι' b=ι b:=fun b hb=>if_neg hb
 have hle:eI ι ι':=fun b l hb=>by
  by_cases e:b=A.next
  ·rw [e,hf] at hb;cases hb
  ·rw [hne b e];exact hb
 have hlive:∀x,x≠A.next→live (A.alloc ob) x→live A x:=by
  rintro x hne ⟨ox,hx,hal⟩;rw [cG,if_neg hne] at hx;exact⟨ox,hx,hal⟩
 refine⟨ι',hin,⟨fun x hx=>?_,fun x ox lx hx hal hlx=>?_,fun x lx hlx=>?_,fun x y lx ly hx hy hlx hly he=>?_,fun x t k c hx=>by
  rw [cG] at hx;by_cases e:x=A.next
  ·rw [if_pos e] at hx;exact absurd (YJ hx) (hgl t k c)
  ·rw [if_neg e] at hx;rw [hne x e];exact h.gl x _ _ _ hx⟩,
  ⟨by rw [ae];omega,fun x hx=>hne x ?_,fun x lx hx hlx=>?_,fun c hc _=>hw.ne c hc (by omega),by omega,hw.os,hw.tape,hw.output,fun x lx hlx hsx=>⟨by rw [cG,if_neg (by have:=hsx.1;omega)],hw.ne _ (h.rng x lx hlx) (by have:=h.rng x lx hlx;omega)⟩,hw.drawn⟩⟩
 ·rw [ae] at hx;rw [cG,if_neg (by omega)];exact h.wf x (by omega)
 ·rw [cG] at hx;by_cases e:x=A.next
  ·subst e;rw [if_pos rfl] at hx;cases hx;rw [hin] at hlx;cases hlx;exact⟨o',hw.at_,ho ι' hle hin⟩
  ·rw [if_neg e] at hx;rw [hne x e] at hlx;obtain⟨o2,h1,h2⟩:=h.obs x ox lx hx hal hlx;exact⟨o2,by rw [hw.ne _ (h.rng x lx hlx) (by have:=h.rng x lx hlx;omega)];exact h1,h2.mono hle⟩
 ·by_cases e:x=A.next
  ·subst e;rw [hin] at hlx;cases hlx;simp only [hs];omega
  ·rw [hne x e] at hlx;have:=h.rng x lx hlx;omega
 ·by_cases ex:x=A.next
  ·by_cases ey:y=A.next
   ·omega
   ·subst ex;rw [hin] at hlx;cases hlx;rw [hne y ey] at hly;have:=h.rng y ly hly;simp only at he;omega
  ·by_cases ey:y=A.next
   ·subst ey;rw [hin] at hly;cases hly;rw [hne x ex] at hlx;have:=h.rng x lx hlx;simp only at he;omega
   ·rw [hne x ex] at hlx;rw [hne y ey] at hly;exact h.inj x y lx ly (hlive x ex hx) (hlive y ey hy) hlx hly he
 ·rw [ae] at hx;omega
 ·by_cases e:x=A.next
  ·subst e;rw [hin] at hlx;cases hlx;exact .inl (X9 _)
  ·rw [hne x e] at hlx;exact .inr ⟨x,lx,hlive x e hx,hlx,rfl⟩
section
theorem R.aj {α β:Type} {x:R α} {f:α→R β} {b:β} (h:x.bind f= .ok b):∃a,x= .ok a∧f a= .ok b:=by
 cases x with
 |ok a=>exact⟨a,rfl,h⟩
 |no w=>cases h
theorem cK {a:Nat} (h:Ye a b=true):a<b:=by rw [Yl] at h;exact h
theorem uH {a:Nat} (h:Ye a b=false):¬a<b:=fun h'=>by
 have:Ye a b=true:=by rw [Yl];exact h'
 rw [h] at this;cases this
theorem cJ {a:Nat} (h:X5 a b=true):a≤b:=by rw [qaT] at h;exact h
theorem uA {a:Nat} (h:X5 a b=false):¬a≤b:=fun h'=>by
 have:X5 a b=true:=by rw [qaT];exact h'
 rw [h] at this;cases this
theorem beq_true {a:Nat} (h:Yc a b=true):a=b:=Yn h
theorem beq_false {a:Nat} (h:Yc a b=false):a≠b:=qbi h
theorem px (a b:Int):nu a b=decide (a<b):=by
 cases a<;>cases b<;>simp only [nu]
 ·rename_i x y;rw [Zr];simp [Yl]
 ·rename_i x y;symm;simp;omega
 ·rename_i x y;symm;simp;omega
 ·rename_i x y;rw [Zr];simp [Yl];omega
theorem kz (a b:Int):mL a b=(a==b):=by
 cases a<;>cases b<;>simp only [mL]
 ·rename_i x y;rw [Zr];simp only [qab,beq_iff_eq,YD];omega
 ·symm;simp
 ·symm;simp
 ·rename_i x y;rw [Zr];simp
theorem lR {a b:IntKind} (h:dS a b=true):a=b:=by
 cases a<;>cases b<;>first|rfl|simp [dS] at h
theorem Au {k:IntKind} {n:Int} (h:iy k n=true):k.min≤n∧n≤k.max:=by
 cases k<;>cases n<;>simp only [iy,Yl,Yj] at h<;>
  simp only [IntKind.min,IntKind.max,IntKind.signed,IntKind.bits,if_true,if_false,Yj,YD]<;>constructor<;>omega
theorem ku {k:IntKind} {n:Int} (h1:k.min≤n) (h2:n≤k.max):k.wrap n=n:=by
 have key:∀c d:Int,0<d→(k.signed=true→c=d+d∧-d≤n∧n<d)→(k.signed=false→d=c∧0≤n∧n<c)→
  (if(k.signed&&decide (n % c≥d))=true then n % c-c else n % c)=n:=by
  intro c d hd hs hu;cases hk:k.signed with
  |false=>
   obtain⟨_,h3,h4⟩:=hu hk;rw [qa1,if_neg (by simp)];exact Int.emod_eq_of_lt h3 h4
  |true=>
   obtain⟨h3,h4,h5⟩:=hs hk;rw [ZK];by_cases h6:0≤n
   ·rw [Int.emod_eq_of_lt h6 (by omega),if_neg (by simp only [decide_eq_true_eq];omega)]
   ·have e:n % c=n+c:=by
     rw [←Int.add_emod_right,Int.emod_eq_of_lt (by omega) (by omega)]
    rw [e,if_pos (by simp only [decide_eq_true_eq];omega)];omega
 have:=key (2^k.bits) (if k.signed then 2^(k.bits-1) else 2^k.bits) (by cases k<;>decide)
  (fun hs=>by
   rw [if_pos hs];simp only [IntKind.min,IntKind.max,hs,if_true] at h1 h2;refine⟨by cases k<;>first|rfl|(cases hs),h1,by omega⟩)
  (fun hs=>by
   rw [if_neg (by simp [hs])];simp only [IntKind.min,IntKind.max,hs,if_false,Yj] at h1 h2;exact⟨rfl,h1,by omega⟩)
 unfold IntKind.wrap;cases hk:k.signed with
 |true=>simpa [hk] using this
 |false=>simpa [hk] using this
theorem eF (k:IntKind) (n:Int):dg k n=k.wrap n:=by
 unfold dg;cases h:iy k n with
 |false=>rfl
 |true=>obtain⟨h1,h2⟩:=Au h;exact(ku h1 h2).symm
theorem BK {k:IntKind} {a:Nat} (h:iy k (.ofNat a)=true):∃e,e≤k.bits∧a<2^e∧∀b:Nat,b<2^e→k.wrap (.ofNat b)= .ofNat b:=by
 have key:∀e,e≤k.bits→((2^e-1:Nat):Int)≤k.max→∀b:Nat,b<2^e→k.wrap (.ofNat b)= .ofNat b:=by
  intro e _ h2 b hb;refine ku ?_ ?_
  ·have:k.min≤0:=by cases k<;>decide
   have h0:(0:Int)≤Yv b:=qai b;omega
  ·have:(Yv b)≤((2^e-1:Nat):Int):=by
    show(b:Int)≤_;omega
   omega
 cases k<;>simp only [iy,Yl,Yj] at h
 ·exact⟨31,by decide,h,key 31 (by decide) (by decide)⟩
 ·exact⟨63,by decide,h,key 63 (by decide) (by decide)⟩
 ·exact⟨8,by decide,h,key 8 (by decide) (by decide)⟩
 ·exact⟨16,by decide,h,key 16 (by decide) (by decide)⟩
 ·exact⟨32,by decide,h,key 32 (by decide) (by decide)⟩
 ·exact⟨64,by decide,h,key 64 (by decide) (by decide)⟩
theorem Pn {k:IntKind} {a:Nat} (ha:iy k (.ofNat a)=true) (hb:iy k (.ofNat b)=true):
 ∃e,e≤k.bits∧a<2^e∧b<2^e∧∀c:Nat,c<2^e→k.wrap (.ofNat c)= .ofNat c:=by
 obtain⟨e,h1,h2,h3⟩:=BK ha;obtain⟨f,k1,k2,k3⟩:=BK hb;rcases qbT e f with h|h
 ·exact⟨f,k1,Yt h2 (Y2 (by omega) h),k2,k3⟩
 ·exact⟨e,h1,h2,Yt k2 (Y2 (by omega) h),h3⟩
variable {P:Program}
theorem kc {op:BinOp} {k:IntKind} {x y:Int} (h:Dx op k x y= .ok v) (w:World):(Op.intBits op k x y).run P w= .ok v w:=by
 have aux:∀(a b:Nat),iy k (.ofNat a)=true→iy k (.ofNat b)=true→∃e,a<2^e∧b<2^e∧(∀c:Nat,c<2^e→k.wrap (.ofNat c)= .ofNat c)∧
  (BitVec.ofInt k.bits (.ofNat a)).toNat=a∧(BitVec.ofInt k.bits (.ofNat b)).toNat=b:=by
  intro a b ha hb;obtain⟨e,h0,h1,h2,h3⟩:=Pn ha hb;have hle:2^e≤2^k.bits:=Y2 (by omega) h0;have cast:∀n:Nat,n<2^k.bits→(BitVec.ofInt k.bits (.ofNat n)).toNat=n:=by
   intro n hn;show(BitVec.ofInt k.bits (n:Int)).toNat=n;rw [BitVec.ofInt_natCast,BitVec.toNat_ofNat,Zb hn]
  exact⟨e,h1,h2,h3,cast a (by omega),cast b (by omega)⟩
 unfold Dx at h;split at h
 ·rename_i a b;cases hc:(iy k (.ofNat a)&&iy k (.ofNat b)) with
  |false=>rw [hc] at h;cases h
  |true=>
   rw [hc] at h;simp only [cond_true,R.ok.injEq] at h;subst h;simp only [Yq] at hc;obtain⟨e,h1,h2,h3,h4,h5⟩:=aux a b hc.1 hc.2;simp only [Op.intBits];show Result.ok _ _=_;rw [BitVec.toNat_and,h4,h5];have:=h3 (a&&&b) (Y5 Nat.and_le_left h1);exact congrArg (fun n=>Result.ok (Value.int k n) w) this
 ·rename_i a b;cases hc:(iy k (.ofNat a)&&iy k (.ofNat b)) with
  |false=>rw [hc] at h;cases h
  |true=>
   rw [hc] at h;simp only [cond_true,R.ok.injEq] at h;subst h;simp only [Yq] at hc;obtain⟨e,h1,h2,h3,h4,h5⟩:=aux a b hc.1 hc.2;simp only [Op.intBits];show Result.ok _ _=_;rw [BitVec.toNat_or,h4,h5];have:=h3 (a|||b) (Nat.or_lt_two_pow h1 h2);exact congrArg (fun n=>Result.ok (Value.int k n) w) this
 ·rename_i a b;cases hc:(iy k (.ofNat a)&&iy k (.ofNat b)) with
  |false=>rw [hc] at h;cases h
  |true=>
   rw [hc] at h;simp only [cond_true,R.ok.injEq] at h;subst h;simp only [Yq] at hc;obtain⟨e,h1,h2,h3,h4,h5⟩:=aux a b hc.1 hc.2;simp only [Op.intBits];show Result.ok _ _=_;rw [BitVec.toNat_xor,h4,h5];have:=h3 (a^^^b) (ZG h1 h2);exact congrArg (fun n=>Result.ok (Value.int k n) w) this
 ·rename_i a b;cases hc:(iy k (.ofNat a)&&iy k (.negSucc b)) with
  |false=>rw [hc] at h;cases h
  |true=>
   rw [hc] at h;simp only [cond_true,R.ok.injEq] at h;subst h;simp only [Yq] at hc;obtain⟨e,h0,h1,h3⟩:=BK hc.1;have hle:2^e≤2^k.bits:=Y2 (by omega) h0;have ha:(BitVec.ofInt k.bits (.ofNat a))=BitVec.ofNat k.bits a:=BitVec.ofInt_natCast ..;have hb:(BitVec.ofInt k.bits (.negSucc b))= ~~~BitVec.ofNat k.bits b:=BitVec.ofInt_negSucc_eq_not_ofNat ..;simp only [Op.intBits];show Result.ok _ _=_;rw [ha,hb];have e1:(BitVec.ofNat k.bits a&&&~~~BitVec.ofNat k.bits b).toNat=Nat.xor a (Nat.land a b):=by
    apply Z6;intro i;rw [BitVec.testBit_toNat,BitVec.getLsbD_and,BitVec.getLsbD_not,BitVec.getLsbD_ofNat,BitVec.getLsbD_ofNat];show _=Nat.testBit (a^^^(a&&&b)) i;rw [qaJ,Nat.testBit_and];by_cases hi:i<k.bits
    ·simp only [hi,decide_true,ZK];cases a.testBit i<;>cases b.testBit i<;>rfl
    ·have:a.testBit i=false:=qbh (Yt h1 (Y2 (by omega) (by omega)));simp [hi,this]
   rw [e1];have:=h3 (Nat.xor a (Nat.land a b)) (ZG h1 (Y5 Nat.and_le_left h1));exact congrArg (fun n=>Result.ok (Value.int k n) w) this
 ·cases h
theorem td {op:BinOp} {k yk:IntKind} {x y:Int} (h:xH op k x y= .ok v) (w:World):(Op.shift op k x yk y).run P w= .ok v w:=by
 unfold xH at h;split at h
 ·rename_i a b;simp only [R.ok.injEq] at h;subst h;have hb:¬(Yv b<0):=by have:=qai b;show¬((b:Int)<0);omega
  simp only [Op.shift,if_neg hb];show Result.ok _ _=_;have e1:min (Yv b).toNat k.bits=bif Ye b k.bits then b else k.bits:=by
   show min b k.bits=_;cases hc:Ye b k.bits with
   |true=>
    have:=cK hc;simp only [cond_true];omega
   |false=>
    have:=uH hc;simp only [cond_false];omega
  rw [e1];generalize (bif Ye b k.bits then b else k.bits)=n;have e2:(Yv a).fdiv (2^n)=Yv (a.shiftRight n):=by
   show(a:Int).fdiv (2^n)=((a.shiftRight n:Nat):Int);rw [show a.shiftRight n=a>>>n from rfl,YX];rw [Int.fdiv_eq_ediv_of_nonneg _ (by exact Int.le_of_lt (Int.pow_pos (by omega)))]
   push_cast;rfl
  rw [e2]
 ·rename_i a b;have hb:¬(Yv b<0):=by have:=qai b;show¬((b:Int)<0);omega
  simp only [Op.shift,if_neg hb];show Result.ok _ _=_;cases hc:Ye b k.bits with
  |true=>
   rw [hc] at h;simp only [cond_true,R.ok.injEq] at h;subst h;have hlt:b<k.bits:=by simpa [Yl] using hc
   have e1:min (Yv b).toNat k.bits=b:=by show min b k.bits=b;omega
   rw [e1,eF];have e2:Yv a*2^b=Yv (a.shiftLeft b):=by
    show(a:Int)*2^b=((a.shiftLeft b:Nat):Int);rw [show a.shiftLeft b=a<<<b from rfl,qbI]
    push_cast;rfl
   rw [e2]
  |false=>
   rw [hc] at h;simp only [cond_false,R.ok.injEq] at h;subst h;have hge:=uH hc;have e1:min (Yv b).toNat k.bits=k.bits:=by show min b k.bits=_;omega
   rw [e1];have e2:k.wrap (Yv a*2^k.bits)=0:=by
    unfold IntKind.wrap;rw [Int.mul_emod_left];cases k<;>rfl
   rw [e2]
 ·cases h
theorem yD {op:BinOp} {k:IntKind} {x y:Int} (h:MH op k x y= .ok v) (w:World):(Op.intDiv op k x y).run P w= .ok v w:=by
 have gen:∀{op':BinOp} {z:Int→Int→Int},(op'= .quo∧z=(fun x y=>k.wrap (x.tdiv y))∨op'= .rem∧z=fun x y=>x.tmod y)→
  (bif mL y 0 then(R.no 15:R Value) else .ok (.int k (z x y)))= .ok v→(Op.intDiv op' k x y).run P w= .ok v w:=by
  intro op' z ho hh;rw [kz] at hh;by_cases hy:y=0
  ·subst hy;simp at hh
  ·have:(y==0)=false:=by simpa using hy
   rw [this] at hh;simp only [cond_false,R.ok.injEq] at hh;subst hh;rcases ho with⟨rfl,rfl⟩|⟨rfl,rfl⟩<;>simp only [Op.intDiv,if_neg hy]<;>rfl
 unfold MH at h;split at h
 ·rename_i a b;simp only [R.ok.injEq] at h;subst h;have hy:¬(Yv (b+1)=0):=by intro h;cases h
  simp only [Op.intDiv,if_neg hy];show Result.ok _ _=_;rw [eF];rfl
 ·rename_i a b;simp only [R.ok.injEq] at h;subst h;have hy:¬(Yv (b+1)=0):=by intro h;cases h
  simp only [Op.intDiv,if_neg hy];rfl
 ·exact gen (.inl ⟨rfl,rfl⟩) h
 ·exact gen (.inr ⟨rfl,rfl⟩) h
 ·cases h
theorem dv:∀(x y:List UInt8),eJ x y=(x==y)
 | [],[]=>rfl
 | [],_::_=>rfl
 |_::_,[]=>rfl
 |a::x,b::y=>by
  have e:Yc a.toNat b.toNat=(a==b):=by
   rw [Zr];simp [ZS]
  show(Yc a.toNat b.toNat&&eJ x y)=_;rw [e,dv x y];rfl
theorem xX:∀(x y:List UInt8),a7 x y=Op.bytesLess x y
 | [],[]=>rfl
 |_::_,[]=>rfl
 | [],_::_=>rfl
 |a::x,b::y=>by
  have e:Yc a.toNat b.toNat=(a==b):=by
   rw [Zr];simp [ZS]
  have e2:Ye a.toNat b.toNat=decide (a<b):=by
   rw [Zr];simp [Yl,qaN]
  show(Ye a.toNat b.toNat||(Yc a.toNat b.toNat&&a7 x y))=(decide (a<b)||(a==b&&Op.bytesLess x y));rw [e,e2,xX x y]
theorem toList_data (s:ByteArray):s.toList=s.data.toList:=by
 have key:∀(n i:Nat) (acc:List UInt8),s.size-i=n→qca.loop s i acc=acc.reverse++s.data.toList.drop i:=by
  intro n
  induction n with
  |zero=>
   intro i acc h;unfold qca.loop;have hs:s.size=s.data.toList.length:=by cases s;simp [ByteArray.size]
   rw [if_neg (by omega),qbj (by omega)];simp
  |succ n ih=>
   intro i acc h;unfold qca.loop;have hs:s.size=s.data.toList.length:=by cases s;simp [ByteArray.size]
   rw [if_pos (by omega),ih (i+1) _ (by omega)];have hi:i<s.data.size:=by simpa using (by omega:i<s.data.toList.length)
   have e:s.get! i=s.data.toList[i]'(by simpa using hi):=by
    cases s;simp [ByteArray.get!,hi]
   rw [Y3 (i:=i) (l:=s.data.toList) (by simpa using hi),e];simp
 have:=key s.size 0 [] (by omega);simpa [qca] using this
theorem size_data (s:ByteArray):s.size=s.data.toList.length:=by cases s;simp [ByteArray.size]
theorem Bh {op:BinOp} {x y:ByteArray} (h:de op x.data.toList y.data.toList= .ok v) (w:World):(Op.stringOp op x y).run P w= .ok v w:=by
 unfold de at h;split at h<;>simp only [Op.stringOp,toList_data,←dv,←xX]
 ·cases hc:Ye (x.data.toList.length+y.data.toList.length) 4611686018427387904 with
  |false=>rw [hc] at h;cases h
  |true=>
   rw [hc] at h;simp only [cond_true,R.ok.injEq] at h;subst h;have hl:x.data.toList.length+y.data.toList.length<4611686018427387904:=by simpa [Yl] using hc
   rw [if_neg]
   ·show Result.ok _ _=_;have:x++y=⟨⟨x.data.toList++y.data.toList⟩⟩:=by
     apply ByteArray.ext;apply Zz;simp
    rw [this];rfl
   ·rw [size_data,size_data];simp only [IntKind.max,IntKind.signed,IntKind.bits,if_true];omega
 all_goals first
  |(simp only [R.ok.injEq] at h;subst h;rfl)
  |cases h
theorem Cr {op:BinOp} {k:IntKind} {a b:Int} {t:TypeId} (h:aN op k a b= .ok v) (w:World):(binOp op t (.int k a) (.int k b)).run P w= .ok v w:=by
 have hk:¬(k≠k):=fun h=>h rfl
 unfold aN at h;split at h<;>simp only [binOp,if_neg hk]
 ·simp only [R.ok.injEq] at h;subst h;rw [eF];rfl
 ·simp only [R.ok.injEq] at h;subst h;rw [eF];rfl
 ·simp only [R.ok.injEq] at h;subst h;rw [eF];rfl
 ·exact yD h w
 ·exact yD h w
 ·exact kc h w
 ·exact kc h w
 ·exact kc h w
 ·exact kc h w
 ·simp only [R.ok.injEq] at h;subst h;rw [kz];rfl
 ·simp only [R.ok.injEq] at h;subst h;rw [kz];rfl
 ·simp only [R.ok.injEq] at h;subst h;rw [px];rfl
 ·simp only [R.ok.injEq] at h;subst h;rw [px];show Result.ok _ _=_;congr 2;rw [Zr];simp
 ·simp only [R.ok.injEq] at h;subst h;rw [px];rfl
 ·simp only [R.ok.injEq] at h;subst h;rw [px];show Result.ok _ _=_;congr 2;rw [Zr];simp
 ·cases h
 ·cases h
end
section
def Rs (k:Nat) (fn:Func):Prop:=
 fn.body=none∧(fn.name== "runtime.NumGoroutine")=false∧Extern.findNext fn=none∧
 match k with
 |1=>Extern.find fn=some Extern.AbiNoEscape.same
 |2=>Extern.find fn=some (Extern.SlicesOverlaps.overlaps fn.params fn.resultTypes)
 |3=>Extern.find fn=some (Extern.BytealgMakeNoZero.makeNoZero fn.params fn.resultTypes)
 |4=>Extern.find fn=some Extern.MapsClone.clone
 |5=>Extern.find fn=(Extern.MathBitsCarry.rows[0]?).map (·.2)
 |6=>Extern.find fn=some Extern.BytealgCount.count
 |7=>Extern.find fn=some Extern.BytealgIndexByte.indexByte
 |_=>False
def b8 (P:Program) (f:FuncId) (h:List Value→Mem→R (Value×Mem)):Prop:=
 ∀(args:List Value) (A:Mem) (v:Value) (A':Mem),h args A= .ok (v,A')→A.next≤A'.next∧∀(ι:da) (w:World) (args':Array Value),Rel ι A w→dH ι args args'.toList→eH ι A A'→
  ∀(fr:Frame) (cs:List Frame),∃ι' w' v',Steps P (lone (Frame.enter P f args' .normal) (fr::cs) w) (lone (fr.finish v') cs w')∧VR ι' v v'∧Rel ι' A' w'∧eC ι A w ι' A' w'
structure cg (tb:bI):Prop where
 ty:∀t i,tb.ty.get t=some i→tb.P.info? t=some i
 fn:∀f fn,tb.fn.get f=some fn→tb.P.funcs[f]?=some fn
 mixed:tb.P.follows .mixedOrders=true
 ex:∀f k fn,tb.ex.get f=some k→tb.fn.get f=some fn→Rs k fn
 hk:∀f h,tb.hk.get f=some h→b8 tb.P f h
variable {tb:bI} (ok:cg tb)
include ok
theorem fi {t:TypeId} {i:TypeInfo} (h:tb.ty.get t=some i) (w:World):(typeInfo t).run tb.P w= .ok i w:=by
 simp [typeInfo,ok.ty t i h]
theorem NU {t:TypeId} {d:TypeDesc} (h:tb.bp t=some d):tb.P.underlying t=some d:=by
 unfold bI.bp at h;unfold Program.underlying;cases hi:tb.ty.get t with
 |none=>rw [hi] at h;cases h
 |some i=>
  rw [hi] at h;rw [ok.ty t i hi];obtain⟨desc,str,size,bytes,hp,al,fa,zero,cmp,ms⟩:=i;simp only at h⊢;cases desc<;>simp only at h⊢<;>try (exact h)
  rename_i nm u;cases hu:tb.ty.get u with
  |none=>rw [hu] at h;cases h
  |some j=>
   rw [hu] at h;rw [ok.ty u j hu];exact h
theorem aI {t:TypeId} {d:TypeDesc} (h:tb.bp t=some d) (w:World):(underlying t).run tb.P w= .ok d w:=by
 simp [underlying,NU ok h]
theorem bY {t:TypeId} {n:Nat} (h:aY tb t= .ok n) (w:World):(sizeOf t).run tb.P w= .ok n w:=by
 unfold aY at h;cases hi:tb.ty.get t with
 |none=>rw [hi] at h;cases h
 |some i=>
  rw [hi] at h;simp only [R.ok.injEq] at h;subst h;simp [sizeOf,fi ok hi]
theorem oR {t:TypeId} {d:TypeDesc} (h:tb.bp t=some d) (w:World):(isAgg t).run tb.P w= .ok (cN d) w:=by
 simp only [isAgg,Sem.run_bind,aI ok h,Result.andThen_ok];cases d<;>rfl
omit ok in
theorem ir {t:TypeId} {v:Value} (h:b7 tb t= .ok v):∃i,tb.ty.get t=some i∧i.zero=some v∧∀ι,VR ι v v:=by
 unfold b7 at h;cases hi:tb.ty.get t with
 |none=>rw [hi] at h;cases h
 |some i=>
  rw [hi] at h;simp only at h;cases hz:i.zero with
  |none=>rw [hz] at h;cases h
  |some z=>
   rw [hz] at h;simp only at h;cases hc:gV 3 z with
   |false=>rw [hc] at h;cases h
   |true=>
    rw [hc] at h;simp only [cond_true,R.ok.injEq] at h;subst h;exact⟨i,rfl,hz,fun ι=>m9 3 z hc⟩
theorem lU {t:TypeId} (h:b7 tb t= .ok v) (w:World):(zeroValue t).run tb.P w= .ok v w:=by
 obtain⟨i,hi,hz,_⟩:=ir h;simp [zeroValue,fi ok hi,hz]
omit ok
variable {ι:da} {n:Nat} {τ:T Value} {a:Act}
theorem aU {x:Operand} (h:ev τ x= .ok v) (ht:TR ι n τ a.tmps):VR ι v (a.eval x):=by
 cases x with
 |tmp i=>
  simp only [ev] at h;split at h
  ·rename_i u hg;simp only [R.ok.injEq] at h;subst h;obtain⟨v',e,r⟩:=ht.2 i u hg;simp only [Act.eval,qbw,e];exact r
  ·cases h
 |const c=>
  simp only [ev] at h;cases hc:gV 3 c with
  |false=>rw [hc] at h;cases h
  |true=>
   rw [hc] at h;simp only [cond_true,R.ok.injEq] at h;subst h;exact m9 3 c hc
 |global g=>cases h
 |func f=>
  simp only [ev,R.ok.injEq] at h;subst h;exact .func trivial .nil .nil
theorem iq:∀{xs:List Operand} {vs:List Value},oV τ xs= .ok vs→TR ι n τ a.tmps→dH ι vs (xs.map a.eval)
 | [],vs,h,_=>by simp only [oV,R.ok.injEq] at h;subst h;exact .nil
 |x::xs,vs,h,ht=>by
  unfold oV at h;obtain⟨v,hv,h⟩:=R.aj h;obtain⟨us,hu,h⟩:=R.aj h;simp only [R.ok.injEq] at h;subst h;exact .cons (aU hv ht) (iq hu ht)
inductive Oz (ι:da):Option Value→Option Value→Prop
 |none:Oz ι none none
 |some {v v':Value} (h:VR ι v v'):Oz ι (some v) (some v')
theorem pv {x:Option Operand} {v:Option Value} (h:D_ τ x= .ok v) (ht:TR ι n τ a.tmps):Oz ι v (x.map a.eval):=by
 cases x with
 |none=>simp only [D_,R.ok.injEq] at h;subst h;exact .none
 |some x=>
  unfold D_ at h;obtain⟨v,hv,h⟩:=R.aj h;simp only [R.ok.injEq] at h;subst h;exact .some (aU hv ht)
inductive TS (ι:da):List (Nat×Value)→List (Nat×Value)→Prop
 |nil:TS ι [] []
 |cons {i:Nat} {v v':Value} {l l':List (Nat×Value)} (h:VR ι v v') (ht:TS ι l l'):TS ι ((i,v)::l) ((i,v')::l')
theorem uJ:∀{xs:List (Nat×Operand)} {vs:List (Nat×Value)},Hc τ xs= .ok vs→TR ι n τ a.tmps→TS ι vs (xs.map fun(i,x)=>(i,a.eval x))
 | [],vs,h,_=>by simp only [Hc,R.ok.injEq] at h;subst h;exact .nil
 |(i,x)::xs,vs,h,ht=>by
  unfold Hc at h;obtain⟨v,hv,h⟩:=R.aj h;obtain⟨us,hu,h⟩:=R.aj h;simp only [R.ok.injEq] at h;subst h;exact .cons (aU hv ht) (uJ hu ht)
variable {m:Nat}
theorem ij (h:lP v= .ok m) (hv:VR ι v v'):∃k,v= .int k (.ofNat m)∧v'= .int k (.ofNat m):=by
 unfold lP at h;split at h
 ·simp only [R.ok.injEq] at h;subst h;cases hv;exact⟨_,rfl,rfl⟩
 ·cases h
theorem Ct {op:BinOp} {t:TypeId} {m':Nat} {y:Int} (h:Hn op m y= .ok v) (hm:m≤m') (hb:m'<2^63):
 ∃v',(∀(P:Program) (w:World),(binOp op t (.int .i64 (.ofNat m')) (.int .i64 y)).run P w= .ok v' w)∧VR ι v v':=by
 unfold Hn at h;split at h
 ·rename_i k;cases hc:X5 k m with
  |false=>rw [hc] at h;cases h
  |true=>
   rw [hc] at h;simp only [cond_true,R.ok.injEq] at h;subst h;have:=cJ hc;refine⟨.bool false,fun P w=>?_,.bool _⟩;simp only [binOp,ne_eq,not_true_eq_false,if_false,Op.intCmp];show Result.ok _ _=_;congr 2;simp only [decide_eq_false_iff_not,YD];omega
 ·rename_i k;cases hc:X5 k m with
  |false=>rw [hc] at h;cases h
  |true=>
   rw [hc] at h;simp only [cond_true,R.ok.injEq] at h;subst h;have:=cJ hc;refine⟨.bool true,fun P w=>?_,.bool _⟩;simp only [binOp,ne_eq,not_true_eq_false,if_false,Op.intCmp];show Result.ok _ _=_;congr 2;simp only [decide_eq_true_eq,YD];omega
 ·rename_i k;cases hc:X5 k m with
  |false=>rw [hc] at h;cases h
  |true=>
   rw [hc] at h;simp only [cond_true,R.ok.injEq] at h;subst h;have:=cJ hc;refine⟨.int .i64 (.ofNat (m'-k)),fun P w=>?_,.least (by omega) (by omega)⟩;simp only [binOp,ne_eq,not_true_eq_false,if_false,Op.intArith];show Result.ok _ _=_;have e:IntKind.i64.wrap (Yv m'-Yv k)=Yv (m'-k):=by
    have e1:Yv m'-Yv k=Yv (m'-k):=by simp only [YD];omega
    rw [e1];refine ku ?_ ?_<;>simp only [IntKind.min,IntKind.max,IntKind.signed,IntKind.bits,if_true,YD]<;>omega
   rw [e]
 ·cases h
theorem Ck {op:BinOp} {t:TypeId} {m':Nat} {y:Int} (h:Hb op y m= .ok v) (hm:m≤m'):
 ∃v',(∀(P:Program) (w:World),(binOp op t (.int .i64 y) (.int .i64 (.ofNat m'))).run P w= .ok v' w)∧VR ι v v':=by
 unfold Hb at h;split at h
 ·rename_i k;cases hc:X5 k m with
  |false=>rw [hc] at h;cases h
  |true=>
   rw [hc] at h;simp only [cond_true,R.ok.injEq] at h;subst h;have:=cJ hc;refine⟨.bool false,fun P w=>?_,.bool _⟩;simp only [binOp,ne_eq,not_true_eq_false,if_false,Op.intCmp];show Result.ok _ _=_;congr 2;simp only [decide_eq_false_iff_not,YD];omega
 ·rename_i k;cases hc:X5 k m with
  |false=>rw [hc] at h;cases h
  |true=>
   rw [hc] at h;simp only [cond_true,R.ok.injEq] at h;subst h;have:=cJ hc;refine⟨.bool true,fun P w=>?_,.bool _⟩;simp only [binOp,ne_eq,not_true_eq_false,if_false,Op.intCmp];show Result.ok _ _=_;congr 2;simp only [decide_eq_true_eq,YD];omega
 ·cases h
def qH:Value→Prop
 | .bool _| .int _ _| .string _=>True
 |_=>False
theorem qH.vr (h:qH v):VR ι v v:=by
 cases v<;>first|(constructor;done)|exact h.elim
theorem ta {op:BinOp} {k:IntKind} {x y:Int} (h:xH op k x y= .ok v):qH v:=by
 unfold xH at h;split at h
 ·simp only [R.ok.injEq] at h;subst h;trivial
 ·rename_i b;cases hb:Ye b k.bits<;>rw [hb] at h<;>simp only [cond_true,cond_false,R.ok.injEq] at h<;>subst h<;>trivial
 ·cases h
theorem Db {op:BinOp} {k:IntKind} {x y:Int} (h:Dx op k x y= .ok v):qH v:=by
 unfold Dx at h;split at h
 iterate 3
  ·rename_i p q;cases hb:(iy k (Yv p)&&iy k (Yv q))<;>rw [hb] at h<;>simp only [cond_true,cond_false,R.ok.injEq,reduceCtorEq] at h;subst h;trivial
 ·rename_i p q;cases hb:(iy k (Yv p)&&iy k (Int.negSucc q))<;>rw [hb] at h<;>simp only [cond_true,cond_false,R.ok.injEq,reduceCtorEq] at h;subst h;trivial
 ·cases h
theorem FI {op:BinOp} {k:IntKind} {x y:Int} (h:MH op k x y= .ok v):qH v:=by
 unfold MH at h;split at h
 ·simp only [R.ok.injEq] at h;subst h;trivial
 ·simp only [R.ok.injEq] at h;subst h;trivial
 ·cases hb:mL y 0<;>rw [hb] at h<;>simp only [cond_true,cond_false,R.ok.injEq,reduceCtorEq] at h;subst h;trivial
 ·cases hb:mL y 0<;>rw [hb] at h<;>simp only [cond_true,cond_false,R.ok.injEq,reduceCtorEq] at h;subst h;trivial
 ·cases h
theorem Cw {op:BinOp} {k:IntKind} {x y:Int} (h:aN op k x y= .ok v):qH v:=by
 unfold aN at h;split at h<;>first
  |(simp only [R.ok.injEq] at h;subst h;trivial)
  |exact FI h
  |exact Db h
  |cases h
theorem CJ {op:BinOp} {x y:List UInt8} (h:de op x y= .ok v):qH v:=by
 unfold de at h;split at h
 ·cases hb:Ye (x.length+y.length) 4611686018427387904<;>rw [hb] at h<;>simp only [cond_true,cond_false,R.ok.injEq,reduceCtorEq] at h;subst h;trivial
 all_goals first
  |(simp only [R.ok.injEq] at h;subst h;trivial)
  |cases h
include ok in
theorem oB {t:TypeId} (hd:tb.bp t=some .bool) (a b:Bool) (w:World):(Op.equal t (.bool a) (.bool b)).run tb.P w= .ok (a==b) w:=by
 unfold Op.equal Op.maxDepth;rw [Op.equalIn];simp only [Sem.run_bind,aI ok hd,Result.andThen_ok];rfl
include ok in
theorem GW {op:BinOp} {t:TypeId} {x x' y y' v:Value} (h:hZ op (tb.bp t) x y= .ok v) (hx:VR ι x x') (hy:VR ι y y'):
 ∃v',(∀w:World,(binOp op t x' y').run tb.P w= .ok v' w)∧VR ι v v':=by
 unfold hZ at h;split at h
 ·cases hx with
  |least hm hb=>cases hy;obtain⟨v',e,r⟩:=Ct (ι:=ι) (t:=t) h hm hb;exact⟨v',fun w=>e _ w,r⟩
 ·cases hx;cases hy with
  |least hm hb=>obtain⟨v',e,r⟩:=Ck (ι:=ι) (t:=t) h hm;exact⟨v',fun w=>e _ w,r⟩
 ·cases hx;cases hy;rename_i k a k' b;split at h
  ·exact⟨v,fun w=>td (P:=tb.P) (yk:=k') h w,(ta h).vr⟩
  ·exact⟨v,fun w=>td (P:=tb.P) (yk:=k') h w,(ta h).vr⟩
  ·cases hk:dS k k' with
   |false=>rw [hk] at h;cases h
   |true=>
    rw [hk] at h;obtain rfl:=lR hk;simp only [cond_true] at h;exact⟨v,fun w=>Cr h w,(Cw h).vr⟩
 ·cases hx;cases hy;refine⟨v,fun w=>?_,(CJ h).vr⟩;have:=Bh (P:=tb.P) h w;rw [←this];cases op<;>rfl
 ·rename_i a b;cases hx;cases hy;split at h
  ·rename_i hd;simp only [R.ok.injEq] at h;subst h;refine⟨.bool (a==b),fun w=>?_,?_⟩
   ·show(do pure (Value.bool (←Op.equal t (.bool a) (.bool b))):Sem Value).run tb.P w=_;simp only [Sem.run_bind,oB ok hd,Result.andThen_ok];rfl
   ·cases a<;>cases b<;>exact .bool _
  ·rename_i hd;simp only [R.ok.injEq] at h;subst h;refine⟨.bool (!(a==b)),fun w=>?_,?_⟩
   ·show(do pure (Value.bool (!(←Op.equal t (.bool a) (.bool b)))):Sem Value).run tb.P w=_;simp only [Sem.run_bind,oB ok hd,Result.andThen_ok];rfl
   ·cases a<;>cases b<;>exact .bool _
  ·cases h
 ·cases h
end
section
variable {tb:bI} (ok:cg tb) {ι:da}
variable {x' y:Value}
theorem zx {op:BinOp} {d:Option TypeDesc} {t:TypeId} {ox oy:Operand} {x y':Value} (h:hZ op d x y= .ok v) (hx:VR ι x x') (hy:VR ι y y') (P:Program) (w:World):
 (eqGuard op t ox oy x' y').run P w= .ok () w:=by
 have key:∀(a b:Value),(∀p q,¬(a= .nilIface∧b= .nilIface)∧¬(a= .agg p∧b= .agg q))→(eqGuard op t ox oy a b).run P w= .ok () w:=by
  intro a b hab;unfold eqGuard;cases op<;>first
   |rfl
   |(cases a<;>first
    |rfl
    |(cases b<;>first
     |rfl
     |exact absurd ⟨rfl,rfl⟩ (hab #[] #[]).1
     |exact absurd ⟨rfl,rfl⟩ (hab _ _).2))
 refine key _ _ fun p q=>?_
 unfold hZ at h;split at h
 ·cases hx with
  |least hm hb=>cases hy;exact⟨by simp,by simp⟩
 ·cases hx;exact⟨by simp,by simp⟩
 ·cases hx;exact⟨by simp,by simp⟩
 ·cases hx;exact⟨by simp,by simp⟩
 ·cases hx;exact⟨by simp,by simp⟩
 ·cases h
theorem xy {k:IntKind} (n:Int):k.wrap ((BitVec.ofInt k.bits (-1)^^^BitVec.ofInt k.bits n).toNat:Int)=k.wrap (-1-n):=by
 have hM:(0:Int)<2^k.bits:=Int.pow_pos (by omega);have e1:BitVec.ofInt k.bits (-1)=BitVec.allOnes k.bits:=by
  apply BitVec.eq_of_toInt_eq;rw [BitVec.toInt_ofInt,BitVec.toInt_allOnes];cases k<;>decide
 have e2:((BitVec.ofInt k.bits (-1)^^^BitVec.ofInt k.bits n).toNat:Int)=2^k.bits-1-n % 2^k.bits:=by
  rw [e1,BitVec.xor_comm,BitVec.xor_allOnes,BitVec.toNat_not,BitVec.toNat_ofInt];have h1:=Int.emod_nonneg n (b:=2^k.bits) (by omega);have h2:=Int.emod_lt_of_pos n hM;have h3:((2^k.bits:Nat):Int)=2^k.bits:=by push_cast;rfl
  rw [h3];omega
 rw [e2];have e3:(2^k.bits-1-n % 2^k.bits:Int) % 2^k.bits=(-1-n) % 2^k.bits:=by
  have h:=Int.mul_ediv_add_emod n (2^k.bits);have:(2^k.bits-1-n % 2^k.bits:Int)=(-1-n)+2^k.bits*(n/2^k.bits+1):=by
   rw [Int.mul_add,Int.mul_one];omega
  rw [this,Int.add_mul_emod_self_left]
 unfold IntKind.wrap;simp only [e3]
theorem KR {op:UnOp} {x:Value} (h:Uw op x= .ok v) (hx:VR ι x x'):∃v',(∀(P:Program) (w:World),(Op.unary op x').run P w= .ok v' w)∧VR ι v v':=by
 unfold Uw at h;split at h
 ·cases hx;simp only [R.ok.injEq] at h;subst h;refine⟨_,fun P w=>?_,.int _ _⟩;rw [eF];rfl
 ·cases hx;rename_i k n;cases hs:k.signed with
  |true=>
   rw [hs] at h;simp only [cond_true,R.ok.injEq] at h;subst h;refine⟨_,fun P w=>?_,.int _ _⟩;simp only [Op.unary,hs,if_true,Op.intBits];show Result.ok _ _=_;rw [eF,show Int.negSucc n=-1-Yv n by simp only [YD];omega,←xy]
  |false=>
   rw [hs] at h;cases hk:iy k (.ofNat n) with
   |false=>rw [hk] at h;cases h
   |true=>
    rw [hk] at h;simp only [cond_true,cond_false,R.ok.injEq] at h;subst h;refine⟨_,fun P w=>?_,.int _ _⟩;simp only [Op.unary,hs,Yj,if_false,Op.intBits];show Result.ok _ _=_;obtain⟨h1,h2⟩:=Au hk;have hmax:k.max=2^k.bits-1:=by simp [IntKind.max,hs]
    have hpos:0<2^k.bits:=Nat.pow_pos (by omega);have hn:n<2^k.bits:=by
     rw [hmax] at h2;have:((2^k.bits:Nat):Int)=2^k.bits:=by push_cast;rfl
     simp only [YD] at h2;omega
    have e1:BitVec.ofInt k.bits k.max=BitVec.allOnes k.bits:=by
     rw [hmax];have:(2^k.bits-1:Int)=((2^k.bits-1:Nat):Int):=by
      rw [Int.natCast_sub (by omega)];push_cast;rfl
     rw [this,BitVec.ofInt_natCast];apply BitVec.eq_of_toNat_eq;rw [BitVec.toNat_ofNat,BitVec.toNat_allOnes,Zb (by omega)]
    have e2:BitVec.ofInt k.bits (Yv n)=BitVec.ofNat k.bits n:=BitVec.ofInt_natCast ..;rw [e1,e2,BitVec.xor_comm,BitVec.xor_allOnes,BitVec.toNat_not,BitVec.toNat_ofNat,Zb hn];have e3:k.wrap (Yv (2^k.bits-1-n))=Yv (2^k.bits-1-n):=by
     refine ku ?_ ?_
     ·have:k.min=0:=by simp [IntKind.min,hs]
      rw [this];exact qai _
     ·rw [hmax];have:((2^k.bits:Nat):Int)=2^k.bits:=by push_cast;rfl
      simp only [YD];omega
    exact congrArg (fun z=>Result.ok (Value.int k z) w) e3
 ·cases hx;rename_i k n;cases hs:k.signed with
  |false=>rw [hs] at h;cases h
  |true=>
   rw [hs] at h;simp only [cond_true,R.ok.injEq] at h;subst h;refine⟨_,fun P w=>?_,.int _ _⟩;simp only [Op.unary,hs,if_true,Op.intBits];show Result.ok _ _=_;rw [eF,show Yv n=-1-Int.negSucc n by simp only [YD];omega,←xy]
 ·cases hx;simp only [R.ok.injEq] at h;subst h;exact⟨_,fun P w=>rfl,.bool _⟩
 ·cases h
variable {m:Nat}
theorem cV {x:Value} {k:IntKind} {y:Nat} {c:BoundsCode} (hx:x= .int k (.ofNat m)) (hm:m≤y) (P:Program) (w:World):
 (Instr.sliceBound x y c).run P w= .ok m w:=by
 subst hx;simp only [Instr.sliceBound,asIntOf,Sem.run_bind,Sem.run_pure,Result.andThen_ok];rw [if_pos ⟨qai _,by simp only [YD];omega⟩];rfl
theorem dK {v v':Option Value} {most:Nat} (h:bound v d most= .ok m) (hv:Oz ι v v'):
 (v=none∧v'=none∧m=d)∨(∃x k,v=some x∧v'=some (.int k (.ofNat m))∧m≤most):=by
 cases hv with
 |none=>simp only [bound,R.ok.injEq] at h;exact .inl ⟨rfl,rfl,h.symm⟩
 |some hx=>
  simp only [bound] at h;split at h
  ·rename_i n hn;obtain⟨k,rfl,rfl⟩:=ij hn hx;cases hb:X5 n most with
   |false=>rw [hb] at h;cases h
   |true=>
    rw [hb] at h;simp only [cond_true,R.ok.injEq] at h;subst h;exact .inr ⟨_,k,rfl,rfl,cJ hb⟩
  ·cases h
variable {cap:Nat}
theorem iZ {lo lo' hi hi':Option Value} {len cap' h l:Nat} {isS:Bool} (hh:bound hi len cap= .ok h) (hl:bound lo 0 h= .ok l) (vl:Oz ι lo lo') (vh:Oz ι hi hi')
 (hc:cap≤cap') (P:Program) (w:World):(Instr.sliceBounds isS len cap' lo' hi' none).run P w= .ok (l,h,cap') w:=by
 unfold Instr.sliceBounds;rcases dK hh vh with⟨_,rfl,rfl⟩|⟨_,k,_,rfl,hm⟩<;>rcases dK hl vl with⟨_,rfl,rfl⟩|⟨_,k2,_,rfl,hm2⟩
 ·rfl
 ·simp only [Sem.run_bind,Sem.run_pure,Result.andThen_ok,cV rfl hm2,Zl,Yj,if_false]
 ·simp only [Sem.run_bind,Sem.run_pure,Result.andThen_ok,cV rfl (YC hm hc)]
 ·simp only [Sem.run_bind,Sem.run_pure,Result.andThen_ok,cV rfl (YC hm hc),cV rfl hm2,Zl,Yj,if_false]
theorem ua {lo lo':Option Value} {hi hi' mx mx':Value} {len cap' h l:Nat} {isS:Bool} (hm:bound (some mx) 0 cap= .ok m) (hh:bound (some hi) 0 m= .ok h) (hl:bound lo 0 h= .ok l)
 (vl:Oz ι lo lo') (vh:VR ι hi hi') (vm:VR ι mx mx') (hc:cap≤cap') (P:Program) (w:World):
 (Instr.sliceBounds isS len cap' lo' (some hi') (some mx')).run P w= .ok (l,h,m) w:=by
 unfold Instr.sliceBounds;rcases dK hm (.some vm) with⟨h1,_,_⟩|⟨_,k,_,h1,hm1⟩
 ·cases h1
 ·cases h1;rcases dK hh (.some vh) with⟨h1,_,_⟩|⟨_,k1,_,h1,hm2⟩
  ·cases h1
  ·cases h1;rcases dK hl vl with⟨_,rfl,rfl⟩|⟨_,k2,_,rfl,hm3⟩
   ·simp only [Sem.run_bind,Sem.run_pure,Result.andThen_ok,cV rfl (YC hm1 hc),cV rfl hm2]
   ·simp only [Sem.run_bind,Sem.run_pure,Result.andThen_ok,cV rfl (YC hm1 hc),cV rfl hm2,cV rfl hm3]
theorem L9 {a:Addr} (h:a.spot=none) (n:Nat):a.add n=jh a n:=by
 obtain⟨b,o,s⟩:=a;cases h;unfold Addr.add jh;split
 ·rename_i h;subst h;rfl
 ·rfl
theorem bV (b o n:Nat):(⟨b,o,none⟩:Addr).add n=⟨b,o+n,none⟩:=L9 rfl n
theorem D9 (b o s n:Nat):(some (⟨b,o+s,none⟩:Addr)).map (·.add n)=some ⟨b,o+n+s,none⟩:=by
 simp only [YI,bV];rw [Z0]
variable {c:Nat}
theorem FM (h:eA c=true):bN c=c/2:=by unfold bN;rw [h];rfl
theorem gM (n:Nat):eA (2*n)=true:=by
 unfold eA;show Yc ((2*n) % 2) 0=true;rw [Nat.mul_mod_right];rfl
theorem eT (n:Nat):bN (2*n)=n:=by rw [FM (gM n)];omega
theorem cH (n e:Nat):eA (fe n e)=false:=by unfold eA fe;show Yc ((2*(n*65536+e)+1) % 2) 0=false;rw [show(2*(n*65536+e)+1) % 2=1 by omega];rfl
theorem cm {e:Nat} (h:e<65536):bN (fe n e)=n:=by
 unfold bN;rw [cH];show(2*(n*65536+e)+1)/2/65536=n;omega
theorem dG {e:Nat} (h:e<65536):iQ (fe n e)=e:=by
 unfold iQ fe;show(2*(n*65536+e)+1)/2 % 65536=e;omega
theorem Im (c:Nat):iQ c<65536:=Y8 _ (by omega)
theorem oE (c l:Nat):eA (gO c l)=eA c:=by
 unfold gO;cases h:eA c with
 |true=>exact gM _
 |false=>exact cH ..
theorem jJ (c l:Nat):bN (gO c l)=bN c-l:=by
 unfold gO;cases h:eA c with
 |true=>exact eT _
 |false=>exact cm (Im c)
theorem rZ {l:Nat} (h:eA c=false):iQ (gO c l)=iQ c:=by
 unfold gO;rw [h];exact dG (Im c)
theorem extract_eq (s:ByteArray) (l h:Nat):s.extract l h=⟨⟨(s.data.toList.take h).drop l⟩⟩:=by
 apply ByteArray.ext;apply Zz;simp [ByteArray.data_extract,List.drop_take]
include ok in
theorem B4 {t:TypeId} {x x' v:Value} {lo lo' hi hi' mx mx':Option Value} (h:dj tb t x lo hi mx= .ok v) (hx:VR ι x x') (vl:Oz ι lo lo') (vh:Oz ι hi hi') (vm:Oz ι mx mx'):
 ∃v',(∀w:World,(Instr.sliceAt t x' lo' hi' mx').run tb.P w= .ok v' w)∧VR ι v v':=by
 unfold dj at h;split at h
 ·
  rename_i s hd;cases hx;cases vm with
  |some _=>cases h
  |none=>
   simp only at h;obtain⟨hh,e1,h0⟩:=R.aj h;clear h;have h:=h0;clear h0;obtain⟨l,e2,h0⟩:=R.aj h;clear h;have h:=h0;clear h0;simp only [R.ok.injEq] at h;subst h;refine⟨.string (s.extract l hh),fun w=>?_,?_⟩
   ·simp only [Instr.sliceAt,Instr.slice,Sem.run_bind,aI ok hd,Result.andThen_ok];have:=iZ (isS:=false) e1 e2 vl vh (X9 _) tb.P w;rw [←size_data] at this;simp only [Zl,Yj,if_false,Sem.run_bind,Sem.run_pure,Result.andThen_ok,this]
   ·rw [extract_eq];exact .string _
 ·
  rename_i elem a len cap hd;cases vm with
  |none=>
   simp only at h;obtain⟨hh,e1,h0⟩:=R.aj h;clear h;have h:=h0;clear h0;obtain⟨l,e2,h0⟩:=R.aj h;clear h;have h:=h0;clear h0;obtain⟨size,e3,h0⟩:=R.aj h;clear h;have h:=h0;clear h0;have run:∀(a':Option Addr) (cap':Nat),bN cap≤cap'→∀w:World,(Instr.sliceAt t (.slice a' len cap') lo' hi' none).run tb.P w=
    .ok (.slice (if cap'=l then a' else a'.map (·.add (l*size))) (hh-l) (cap'-l)) w:=by
    intro a' cap' hc w;simp only [Instr.sliceAt,Instr.slice,Sem.run_bind,aI ok hd,Result.andThen_ok,iZ (isS:=true) e1 e2 vl vh hc,bY ok e3,Sem.run_pure]
   have bh:hh≤max len (bN cap)∧(hh≤len∨hh≤bN cap):=by
    rcases dK e1 vh with⟨_,_,rfl⟩|⟨_,_,_,_,hm⟩
    ·exact⟨Nat.le_max_left ..,.inl (X9 _)⟩
    ·exact⟨YC hm (Nat.le_max_right ..),.inr hm⟩
   have bl:l≤hh:=by
    rcases dK e2 vl with⟨_,_,rfl⟩|⟨_,_,_,_,hm⟩
    ·omega
    ·exact hm
   cases hx with
   |slN=>
    simp only [R.ok.injEq] at h;subst h;have h0:bN 0=0:=rfl;refine⟨.slice none 0 0,fun w=>?_,.slN⟩;rw [run none 0 (by rw [h0];omega) w];have:hh=0:=by rw [h0] at bh;omega
    subst this;simp
   |sl hl hk=>
    rename_i b o lc;simp only [hk,ZK] at h;cases hb:Yc (bN cap) l with
    |true=>
     rw [hb] at h;simp only [cond_true,R.ok.injEq] at h;subst h;have hbl:=beq_true hb;refine⟨_,run _ _ (X9 _),?_⟩;rw [if_pos hbl,show bN cap-l=0 by omega];exact VR.sl hl rfl
    |false=>
     have hbl:=beq_false hb;rw [hb] at h;simp only [cond_false,eG,hk,cond_true,R.ok.injEq] at h;subst h;refine⟨_,run _ _ (X9 _),?_⟩;rw [if_neg hbl];rw [D9,←jJ];exact VR.sl hl (by rw [oE];exact hk)
   |slX hl hk hc hsz ho hb hlen=>
    rename_i b o o' cap' lc;simp only [hk,qa1,cond_false] at h;cases hf:eG cap size with
    |false=>rw [hf] at h;cases h
    |true=>
     rw [hf] at h;simp only [cond_true,R.ok.injEq] at h;subst h;have hsize:iQ cap=size:=by
      unfold eG at hf;rw [hk] at hf;exact beq_true hf
     refine⟨_,run _ _ hc,?_⟩;have hhc:hh≤bN cap:=by omega
     by_cases hcl:cap'=l
     ·rw [if_pos hcl];have h0:bN cap-l=0:=by omega
      refine VR.slX hl (by rw [oE];exact hk) (by rw [jJ];omega) ?_ (by omega) (by omega) (by rw [jJ];omega);rw [rZ hk,show cap'-l=0 by omega];have:=YC (Nat.le_add_right o' (cap'*iQ cap)) hsz;omega
     ·rw [if_neg hcl];have e:(some (⟨lc.blk,o',none⟩:Addr)).map (·.add (l*size))=some ⟨lc.blk,o'+l*size,none⟩:=by
       simp only [YI,bV]
      rw [e];refine VR.slX hl (by rw [oE];exact hk) (by rw [jJ];omega) ?_ ?_ (by omega) (by rw [jJ];omega)
      ·rw [rZ hk,hsize];rw [hsize] at hsz;have hlc:l≤cap':=by omega
       have:(cap'-l)*size+l*size=cap'*size:=by rw [←qaa];congr 1;omega
       omega
      ·intro hp;have:=ho (by omega);show o'+l*size=o+l*size+lc.sh;omega
  |some hv=>
   rename_i mx0 mx1;simp only at h;obtain⟨m,e0,h0⟩:=R.aj h;clear h;have h:=h0;clear h0;obtain⟨hh,e1,h0⟩:=R.aj h;clear h;have h:=h0;clear h0;obtain⟨l,e2,h0⟩:=R.aj h;clear h;have h:=h0;clear h0;obtain⟨size,e3,h0⟩:=R.aj h;clear h;have h:=h0;clear h0;cases vh with
   |none=>simp only at h;cases h
   |some vhh=>
    rename_i hi0 hi1;have run:∀(a':Option Addr) (cap':Nat),bN cap≤cap'→∀w:World,(Instr.sliceAt t (.slice a' len cap') lo' (some hi1) (some mx1)).run tb.P w=
     .ok (.slice (if m=l then a' else a'.map (·.add (l*size))) (hh-l) (m-l)) w:=by
     intro a' cap' hc w;simp only [Instr.sliceAt,Instr.slice,Sem.run_bind,aI ok hd,Result.andThen_ok,ua (isS:=true) e0 e1 e2 vl vhh hv hc,bY ok e3,Sem.run_pure]
    have bl:l≤hh∧hh≤m∧m≤bN cap:=by
     rcases dK e0 (.some hv) with⟨h1,_,_⟩|⟨_,_,_,_,hm⟩
     ·cases h1
     ·rcases dK e1 (.some vhh) with⟨h1,_,_⟩|⟨_,_,_,_,hm1⟩
      ·cases h1
      ·rcases dK e2 vl with⟨_,_,rfl⟩|⟨_,_,_,_,hm2⟩<;>omega
    have fin:∀{b o o':Nat} {lc:Loc},ι b=some lc→(0<bN cap→o'=o+lc.sh)→o'=o+lc.sh∨m=0→
     (bif Yc m l then(R.ok (Value.slice (some ⟨b,o,none⟩) (hh-l) 0)) else .ok (.slice (some (jh ⟨b,o,none⟩ (l*size))) (hh-l) (2*(m-l))))= .ok v→
     VR ι v (.slice (if m=l then some ⟨lc.blk,o',none⟩ else(some (⟨lc.blk,o',none⟩:Addr)).map (·.add (l*size))) (hh-l) (m-l))∨o'≠o+lc.sh:=by
     intro b o o' lc hl _ hoo h;by_cases hne:o'=o+lc.sh
     ·left;subst hne;by_cases hml:m=l
      ·have hb:Yc m l=true:=by rw [qab];exact hml
       rw [hb] at h;simp only [cond_true,R.ok.injEq] at h;subst h;rw [if_pos hml,show m-l=0 by omega];exact VR.sl hl rfl
      ·have hb:Yc m l=false:=by
        cases hx:Yc m l with
        |false=>rfl
        |true=>exact absurd (beq_true hx) hml
       rw [hb] at h;simp only [cond_false,R.ok.injEq] at h;subst h;rw [if_neg hml];rw [D9];have:=VR.sl (ι:=ι) (b:=b) (o:=o+l*size) (len:=hh-l) (k:=2*(m-l)) hl (gM _);rw [eT] at this;exact this
     ·exact .inr hne
    cases hx with
    |slN=>
     simp only [R.ok.injEq] at h;subst h;have h0:bN 0=0:=rfl;refine⟨.slice none 0 0,fun w=>?_,.slN⟩;rw [run none 0 (by rw [h0];omega) w];rw [h0] at bl;have e1:m=0:=by omega
     have e2:l=0:=by omega
     have e3:hh=0:=by omega
     subst e1 e2 e3;simp
    |sl hl hk=>
     refine⟨_,run _ _ (X9 _),?_⟩;rcases fin hl (fun _=>rfl) (.inl rfl) (by simp only [hk,Bool.true_or,cond_true] at h;exact h) with h1|h1
     ·exact h1
     ·exact absurd rfl h1
    |slX hl hk hc hsz ho hb hlen=>
     rename_i b o o' cap' lc;simp only [hk,Bool.false_or] at h;cases hf:eG cap size&&Ye 0 (bN cap) with
     |false=>rw [hf] at h;cases h
     |true=>
      rw [hf] at h;simp only [cond_true] at h;simp only [Yq] at hf;have h0:=cK hf.2;refine⟨_,run _ _ hc,?_⟩;rcases fin hl (fun hp=>ho (by omega)) (.inl (ho (by omega))) h with h1|h1
      ·exact h1
      ·exact absurd (ho (by omega)) h1
 ·
  rename_i len elem a hd;cases hx with
  |ptr hl=>
   rename_i b o lc;cases vm with
   |some _=>simp only at h;cases h
   |none=>
    simp only at h;obtain⟨hh,e1,h0⟩:=R.aj h;clear h;have h:=h0;clear h0;obtain⟨l,e2,h0⟩:=R.aj h;clear h;have h:=h0;clear h0;obtain⟨size,e3,h0⟩:=R.aj h;clear h;have h:=h0;clear h0;have run:∀w:World,(Instr.sliceAt t (.pointer (some ⟨lc.blk,o+lc.sh,none⟩)) lo' hi' none).run tb.P w=
     .ok (.slice (some (if len=l then⟨lc.blk,o+lc.sh,none⟩ else(⟨lc.blk,o+lc.sh,none⟩:Addr).add (l*size))) (hh-l) (len-l)) w:=by
     intro w;simp only [Instr.sliceAt,Instr.sureAddr,Sem.run_bind,aI ok hd,Result.andThen_ok,iZ (isS:=false) e1 e2 vl vh (X9 _),bY ok e3,Sem.run_pure]
    refine⟨_,run,?_⟩;cases hb:Yc len l with
    |true=>
     rw [hb] at h;simp only [cond_true,R.ok.injEq] at h;subst h;have hml:=beq_true hb;rw [if_pos hml,show len-l=0 by omega];exact VR.sl hl rfl
    |false=>
     rw [hb] at h;simp only [cond_false,R.ok.injEq] at h;subst h;have hml:=beq_false hb;rw [if_neg hml,bV];have:=VR.sl (ι:=ι) (b:=b) (o:=o+l*size) (len:=hh-l) (k:=2*(len-l)) hl (gM _);rw [eT,show o+l*size+lc.sh=o+lc.sh+l*size by omega] at this;exact this
 ·cases h
end
section
variable {tb:bI} (ok:cg tb) {ι:da}
include ok in
theorem ub {t:TypeId} {x x' v:Value} {i:Nat} (h:ax tb t x i= .ok v) (hx:VR ι x x'):
 ∃v',(∀w:World,(Instr.fieldAt t x' i).run tb.P w= .ok v' w)∧VR ι v v':=by
 unfold ax at h;split at h
 ·rename_i fs a hd;cases hx with
  |ptr hl=>
   rename_i b o lc;simp only at h;split at h
   ·rename_i f _ hf;obtain⟨n,e1,h1⟩:=R.aj h;cases hb:Yc n 0 with
    |true=>rw [hb] at h1;cases h1
    |false=>
     rw [hb] at h1;simp only [cond_false,R.ok.injEq] at h1;subst h1;refine⟨.pointer (some ⟨lc.blk,o+f.offset+lc.sh,none⟩),fun w=>?_,?_⟩
     ·have hf':fs[i]?=some f:=by rw [←Yu];exact hf
      simp only [Instr.fieldAt,Sem.run_bind,aI ok hd,Result.andThen_ok,hf',Instr.sureAddr,Sem.run_pure,fieldPlace,bY ok e1,if_neg (beq_false hb),bV];rw [Z0]
     ·exact VR.ptr (o:=o+f.offset) hl
   ·cases h
 ·cases h
include ok in
theorem mq {t:TypeId} {x x' y y' v:Value} (h:aZ tb t x y= .ok v) (hx:VR ι x x') (hy:VR ι y y'):
 ∃v',(∀w:World,(Instr.indexAt t x' y').run tb.P w= .ok v' w)∧VR ι v v':=by
 unfold aZ at h;split at h
 ·cases h
 ·rename_i i hi;obtain⟨k,rfl,rfl⟩:=ij hi hy;have h0:(0:Int)≤Yv i:=qai _;split at h
  ·rename_i len elem a hd;cases hx with
   |ptr hl=>
    rename_i b o lc;simp only at h;cases hb:Ye i len with
    |false=>rw [hb] at h;cases h
    |true=>
     rw [hb] at h;simp only [cond_true] at h;obtain⟨n,e1,h1⟩:=R.aj h;simp only [R.ok.injEq] at h1;subst h1;have hlt:=cK hb;refine⟨.pointer (some ⟨lc.blk,o+i*n+lc.sh,none⟩),fun w=>?_,VR.ptr (o:=o+i*n) hl⟩;have hc:(0:Int)≤Yv i∧Yv i<(len:Int):=⟨h0,by simp only [YD];omega⟩;simp only [Instr.indexAt,asIntOf,Sem.run_bind,Sem.run_pure,aI ok hd,Result.andThen_ok,Instr.sureAddr,if_pos hc,bY ok e1,bV];show Result.ok (Value.pointer (some ⟨lc.blk,o+lc.sh+i*n,none⟩)) w=_;rw [Z0]
  ·rename_i elem a len cap hd;have core:∀{b o o' cap':Nat} {lc:Loc},ι b=some lc→(i<len→o'=o+lc.sh)→a=⟨b,o,none⟩→
    ∃v',(∀w:World,(Instr.indexAt t (.slice (some ⟨lc.blk,o',none⟩) len cap') (.int k (.ofNat i))).run tb.P w= .ok v' w)∧VR ι v v':=by
    intro b o o' cap' lc hl ho ha;subst ha;simp only at h;cases hb:Ye i len with
    |false=>rw [hb] at h;cases h
    |true=>
     rw [hb] at h;simp only [cond_true] at h;obtain⟨n,e1,h1⟩:=R.aj h;simp only [R.ok.injEq] at h1;subst h1;have hlt:=cK hb;refine⟨.pointer (some ⟨lc.blk,o+i*n+lc.sh,none⟩),fun w=>?_,VR.ptr (o:=o+i*n) hl⟩;have hc:(0:Int)≤Yv i∧Yv i<(len:Int):=⟨h0,by simp only [YD];omega⟩;simp only [Instr.indexAt,asIntOf,Sem.run_bind,Sem.run_pure,aI ok hd,Result.andThen_ok,if_pos hc,bY ok e1,bV];show Result.ok (Value.pointer (some ⟨lc.blk,o'+i*n,none⟩)) w=_;rw [ho hlt,Z0]
   cases hx with
   |sl hl hk=>exact core hl (fun _=>rfl) rfl
   |slX hl hk hc hsz ho hb hlen=>exact core hl (fun hlt=>ho (by omega)) rfl
  ·cases h
include ok in
theorem fk {t:TypeId} {cs:List Value} {cs':Array Value} {off:Nat} {v:Value} (h:je tb t cs off= .ok v) (hc:dH ι cs cs'.toList):
 ∃v',(∀w:World,(part t cs' off).run tb.P w= .ok v' w)∧VR ι v v':=by
 unfold je at h;split at h
 ·cases h
 ·rename_i d hd;cases ha:cN d with
  |true=>
   rw [ha] at h;simp only [cond_true] at h;obtain⟨n,e1,h1⟩:=R.aj h;simp only [R.ok.injEq] at h1;subst h1;refine⟨.agg (cs'.extract off (off+n)),fun w=>?_,?_⟩
   ·simp only [part,Sem.run_bind,oR ok hd,ha,Result.andThen_ok,if_true,bY ok e1,Sem.run_pure]
   ·refine .agg ?_;have:(cs'.extract off (off+n)).toList=(cs'.toList.drop off).take n:=by
     simp [Array.toList_extract,List.extract_eq_take_drop]
    rw [this];exact(hc.drop off).take n
  |false=>
   rw [ha] at h;simp only [cond_false] at h;split at h
   ·rename_i x hx;simp only [R.ok.injEq] at h;subst h;obtain⟨x',e,r⟩:=hc.get _ _ hx;have e':cs'[off]?=some x':=by rw [←Yu];exact e
    refine⟨x',fun w=>?_,r⟩;simp only [part,Sem.run_bind,oR ok hd,ha,Result.andThen_ok,Yj,if_false,e',Sem.run_pure]
   ·cases h
include ok in
theorem CP {t:TypeId} {x x' v:Value} {i:Nat} (h:tU tb t x i= .ok v) (hx:VR ι x x'):
 ∃v',(∀w:World,(Instr.field t x' i).run tb.P w= .ok v' w)∧VR ι v v':=by
 unfold tU at h;split at h
 ·rename_i fs cs hd;cases hx with
  |agg hc=>
   split at h
   ·rename_i f hf;obtain⟨v',e,r⟩:=fk ok h hc;refine⟨v',fun w=>?_,r⟩;have hf':fs[i]?=some f:=by rw [←Yu];exact hf
    simp only [Instr.field,Sem.run_bind,aI ok hd,Result.andThen_ok,hf',asAgg,Sem.run_pure,e]
   ·cases h
 ·cases h
include ok in
theorem CI {t:TypeId} {x x' y y' v:Value} (h:mV tb t x y= .ok v) (hx:VR ι x x') (hy:VR ι y y'):
 ∃v',(∀w:World,(Instr.index t x' y').run tb.P w= .ok v' w)∧VR ι v v':=by
 unfold mV at h;split at h
 ·cases h
 ·rename_i i hi;obtain⟨k,rfl,rfl⟩:=ij hi hy;have h0:(0:Int)≤Yv i:=qai _;split at h
  ·rename_i len elem cs hd;cases hx with
   |agg hcs=>
    cases hb:Ye i len with
    |false=>rw [hb] at h;cases h
    |true=>
     rw [hb] at h;simp only [cond_true] at h;obtain⟨n,e1,h1⟩:=R.aj h;obtain⟨v',e,r⟩:=fk ok h1 hcs;have hlt:=cK hb;have hc:(0:Int)≤Yv i∧Yv i<(len:Int):=⟨h0,by simp only [YD];omega⟩;refine⟨v',fun w=>?_,r⟩;simp only [Instr.index,asIntOf,Sem.run_bind,Sem.run_pure,aI ok hd,Result.andThen_ok,if_pos hc,bY ok e1];exact e w
  ·rename_i s hd;cases hx;split at h
   ·rename_i b hb;simp only [R.ok.injEq] at h;subst h;refine⟨_,fun w=>?_,.int _ _⟩;have hs:s[(Yv i).toNat]?=some b:=by
     show s[i]?=some b;have hlt:i<s.data.toList.length:=by
      rcases YE i s.data.toList.length with h|h
      ·exact h
      ·rw [YR h] at hb;cases hb
     have hlt':i<s.size:=by rw [size_data];exact hlt
     rw [getElem?_pos s i hlt'];rw [X6 hlt] at hb;rw [←hb];rfl
    simp only [Instr.index,asIntOf,Sem.run_bind,Sem.run_pure,aI ok hd,Result.andThen_ok,if_pos h0,hs];rfl
   ·cases h
  ·cases h
theorem CN (vs:List Value):∀(off:Nat) (cells:Array Value) (j:Nat),off+j+vs.length≤cells.size→
 ((vs.zipIdx j).foldl (fun cs (p:Value×Nat)=>cs.setIfInBounds (off+p.2) p.1) cells).toList=oK cells.toList (off+j) vs:=by
 induction vs with
 |nil=>intro off cells j h;simp [oK]
 |cons v vs ih=>
  intro off cells j h;simp only [Yf] at h;rw [List.zipIdx_cons,Zh,ih off _ (j+1) (by simp;omega)];simp only [oK,Array.toList_setIfInBounds,Yf];rw [List.take_set,List.drop_set,if_pos (by omega)];have e1:(cells.toList.take (off+(j+1))).set (off+j) v=cells.toList.take (off+j)++[v]:=by
   have hmin:min (off+j) cells.size=off+j:=by omega
   rw [show off+(j+1)=off+j+1 by omega,Yd (by simp;omega),List.set_append];simp [hmin]
  rw [e1,show off+(j+1)+vs.length=off+j+(vs.length+1) by omega];simp
theorem FO {a a' b b':List Value} (off:Nat) (ha:dH ι a a') (hb:dH ι b b'):dH ι (oK a off b) (oK a' off b'):=by
 unfold oK;rw [hb.length];exact((ha.take off).append hb).append (ha.drop _)
theorem kA {pl pl':Nat→Option (Nat×Nat)} (hp:∀i x,pl i=some x→pl' i=some x):∀{parts parts':List (Nat×Value)} {cells:List Value} {cells':Array Value} {r:List Value},yX pl cells parts=some r→
 dH ι cells cells'.toList→TS ι parts parts'→∃r',Instr.fill pl' cells' parts'=some r'∧dH ι r r'.toList
 | [],_,cells,cells',r,h,hc,.nil=>by simp only [yX,YB] at h;subst h;exact⟨cells',rfl,hc⟩
 |(i,v)::rest,_,cells,cells',r,h,hc,.cons hv ht=>by
  rename_i v' rest';unfold yX at h;split at h
  ·cases h
  ·rename_i off size hpl;have hlen:=hv.cells.length;simp only [Z8] at hlen;have hlc:=hc.length;simp only [Z8] at hlc;cases hb:(Yc v.cells.toList.length size&&X5 (off+size) cells.length) with
   |false=>rw [hb] at h;cases h
   |true=>
    rw [hb] at h;simp only [cond_true] at h;simp only [Yq] at hb;have h1:=beq_true hb.1;have h2:=cJ hb.2;simp only [Z8] at h1;unfold Instr.fill;rw [hp i _ hpl];simp only
    rw [if_neg]
    ·have hs:=FO (ι:=ι) off hc hv.cells;have hf:=CN v'.cells.toList off cells' 0 (by simp;omega);have e:(v'.cells.zipIdx.foldl (fun cs (p:Value×Nat)=>cs.setIfInBounds (off+p.2) p.1) cells').toList=oK cells'.toList off v'.cells.toList:=by
      rw [←Array.foldl_toList,Array.toList_zipIdx];exact hf
     refine kA hp h ?_ ht;rw [show(Array.foldl (fun cs x=>match x with|(c,j)=>cs.setIfInBounds (off+j) c) cells' v'.cells.zipIdx)=v'.cells.zipIdx.foldl (fun cs (p:Value×Nat)=>cs.setIfInBounds (off+p.2) p.1) cells' from rfl,e];exact hs
    ·simp only [Bool.or_eq_true,decide_eq_true_eq,ne_eq];omega
include ok in
theorem qi:∀{fs:List Field} {l:List (Nat×Nat)},s_ tb fs= .ok l→∀w:World,(fs.mapM fun f=>do pure (f.offset,←sizeOf f.type):Sem (List (Nat×Nat))).run tb.P w= .ok l w
 | [],l,h,w=>by simp only [s_,R.ok.injEq] at h;subst h;rfl
 |f::fs,l,h,w=>by
  unfold s_ at h;obtain⟨n,e1,h1⟩:=R.aj h;obtain⟨l',e2,h2⟩:=R.aj h1;simp only [R.ok.injEq] at h2;subst h2;have:=qi e2 w;simp only [List.mapM_cons,Sem.run_bind,Sem.run_pure,bY ok e1,Result.andThen_ok,this]
include ok in
theorem BM {t:TypeId} {parts parts':List (Nat×Value)} {v:Value} (h:cr tb t parts= .ok v) (hp:TS ι parts parts'):
 ∃v',(∀w:World,(Instr.build t parts'.toArray).run tb.P w= .ok v' w)∧VR ι v v':=by
 unfold cr at h;obtain⟨zero,hz,h0⟩:=R.aj h;clear h;have hzr:=lU ok hz;obtain⟨_,_,_,hzv⟩:=ir hz;have hzc:=(hzv ι).cells;split at h0
 ·rename_i fs hd;obtain⟨places,hpl,h1⟩:=R.aj h0;clear h0;split at h1
  ·rename_i cells hf;simp only [R.ok.injEq] at h1;subst h1;obtain⟨r',e,hr⟩:=kA (pl':=fun i=>places.toArray[i]?) (fun i x hx=>by simpa using hx) hf hzc hp;refine⟨.agg r',fun w=>?_,.agg hr⟩;have hm:(fs.mapM fun f=>do pure (f.offset,←sizeOf f.type):Sem (Array (Nat×Nat))).run tb.P w= .ok places.toArray w:=by
    rw [Array.mapM_eq_mapM_toList];simp only [Sem.run_map,qi ok hpl w,Result.andThen_ok]
   simp only [Instr.build,Sem.run_bind,hzr,Result.andThen_ok,aI ok hd,hm];simp only [e,Sem.run_pure]
  ·cases h1
 ·rename_i len elem hd;obtain⟨n,e1,h1⟩:=R.aj h0;clear h0;split at h1
  ·rename_i cells hf;simp only [R.ok.injEq] at h1;subst h1;obtain⟨r',e,hr⟩:=kA (pl':=fun i=>some (i*n,n)) (fun i x hx=>hx) hf hzc hp;refine⟨.agg r',fun w=>?_,.agg hr⟩;simp only [Instr.build,Sem.run_bind,hzr,Result.andThen_ok,aI ok hd,bY ok e1];simp only [e,Sem.run_pure]
  ·cases h1
 ·cases h0
end
section
variable {tb:bI} (ok:cg tb) {ι:da}
include ok in
theorem Cm {s d:TypeId} {x x' v:Value} (h:gj tb s d x= .ok v) (hx:VR ι x x'):∃v',(∀w:World,(convert s d x').run tb.P w= .ok v' w)∧VR ι v v':=by
 unfold gj at h;split at h
 ·rename_i ds k k' n hs hd;cases hx;simp only [R.ok.injEq] at h;subst h;refine⟨_,fun w=>?_,.int _ _⟩;simp only [convert,Sem.run_bind,aI ok hs,aI ok hd,Result.andThen_ok,eF];rfl
 ·rename_i ds s hs hd;cases hx;simp only [R.ok.injEq] at h;subst h;refine⟨_,fun w=>?_,.string _⟩;simp only [convert,Sem.run_bind,aI ok hs,aI ok hd,Result.andThen_ok];rfl
 ·cases h
include ok in
theorem ES {t:TypeId} {ts:Array TypeId} {x x' v:Value} {args:Array Value} {rt:TypeId} (h:Eu tb t x= .ok v) (hx:VR ι x x') (ht:ts[0]?=some t) (ha:args[0]?=some x'):
 ∃v',(∀w:World,(Builtin.len_ ts rt args).run tb.P w= .ok v' w)∧VR ι v v':=by
 unfold Eu at h;split at h
 ·rename_i s hd;cases hx;simp only [R.ok.injEq] at h;subst h;refine⟨_,fun w=>?_,.int _ _⟩;simp only [Builtin.len_,ht,ha,Sem.run_bind,aI ok hd,Result.andThen_ok,size_data];rfl
 ·rename_i n e hd;simp only [R.ok.injEq] at h;subst h;refine⟨_,fun w=>?_,.int _ _⟩;simp only [Builtin.len_,ht,ha,Sem.run_bind,aI ok hd,Result.andThen_ok];cases x'<;>rfl
 ·rename_i e a n c hd;simp only [R.ok.injEq] at h;subst h;cases hx<;>refine⟨_,fun w=>?_,.int _ _⟩<;>simp only [Builtin.len_,ht,ha,Sem.run_bind,aI ok hd,Result.andThen_ok]<;>rfl
 ·rename_i e hd;simp only [R.ok.injEq] at h;subst h;cases hx;refine⟨_,fun w=>?_,.int _ _⟩;simp only [Builtin.len_,ht,ha,Sem.run_bind,aI ok hd,Result.andThen_ok];rfl
 ·cases h
include ok in
theorem EM {t:TypeId} {ts:Array TypeId} {x x' v:Value} {args:Array Value} {rt:TypeId} (h:N7 tb t x= .ok v) (hx:VR ι x x') (ht:ts[0]?=some t) (ha:args[0]?=some x'):
 ∃v',(∀w:World,(Builtin.cap_ ts rt args).run tb.P w= .ok v' w)∧VR ι v v':=by
 unfold N7 at h;split at h
 ·rename_i n e hd;simp only [R.ok.injEq] at h;subst h;refine⟨_,fun w=>?_,.int _ _⟩;simp only [Builtin.cap_,ht,ha,Sem.run_bind,aI ok hd,Result.andThen_ok];cases x'<;>rfl
 ·rename_i e a n c hd;cases hx with
  |slN=>
   have h':R.ok (Value.int .i64 (.ofNat 0))=R.ok v:=h;cases h';refine⟨.int .i64 (.ofNat 0),fun w=>?_,.int _ _⟩;simp only [Builtin.cap_,ht,ha,Sem.run_bind,aI ok hd,Result.andThen_ok];rfl
  |sl hl hk=>
   rw [hk] at h;simp only [cond_true,R.ok.injEq] at h;subst h;refine⟨_,fun w=>?_,.int _ _⟩;simp only [Builtin.cap_,ht,ha,Sem.run_bind,aI ok hd,Result.andThen_ok];rfl
  |slX hl hk hc hsz ho hb hlen=>
   rw [hk] at h;simp only [cond_false,R.ok.injEq] at h;subst h;refine⟨_,fun w=>?_,.least hc hb⟩;simp only [Builtin.cap_,ht,ha,Sem.run_bind,aI ok hd,Result.andThen_ok];rfl
 ·cases h
variable {x' y:Value}
theorem Ef {x y':Value} (h:u6 x y= .ok v) (hx:VR ι x x') (hy:VR ι y y'):∃v',(∀(P:Program) (w:World),(Builtin.min2 x' y').run P w= .ok v' w)∧VR ι v v':=by
 unfold u6 at h;split at h
 ·cases hx;cases hy;rename_i k a k' b;cases hk:dS k k' with
  |false=>rw [hk] at h;cases h
  |true=>
   rw [hk] at h;simp only [cond_true,R.ok.injEq] at h;subst h;refine⟨_,fun P w=>?_,.int _ _⟩;simp only [Builtin.min2,Sem.run_pure,px];by_cases hc:b<a<;>simp [hc]
 ·cases h
theorem EP {x y':Value} (h:uO x y= .ok v) (hx:VR ι x x') (hy:VR ι y y'):∃v',(∀(P:Program) (w:World),(Builtin.max2 x' y').run P w= .ok v' w)∧VR ι v v':=by
 unfold uO at h;split at h
 ·cases hx;cases hy;rename_i k a k' b;cases hk:dS k k' with
  |false=>rw [hk] at h;cases h
  |true=>
   rw [hk] at h;simp only [cond_true,R.ok.injEq] at h;subst h;refine⟨_,fun P w=>?_,.int _ _⟩;simp only [Builtin.max2,Sem.run_pure,px];by_cases hc:a<b<;>simp [hc]
 ·cases h
theorem n8 {f:Value→Value→R Value} {g:Value→Value→Sem Value}
 (hf:∀{x x' y y' v:Value},f x y= .ok v→VR ι x x'→VR ι y y'→∃v',(∀(P:Program) (w:World),(g x' y').run P w= .ok v' w)∧VR ι v v'):
 ∀{l l':List Value} {x x' v:Value},jc f x l= .ok v→VR ι x x'→dH ι l l'→∃v',(∀(P:Program) (w:World),(l'.foldlM g x').run P w= .ok v' w)∧VR ι v v'
 | [],_,x,x',v,h,hx,.nil=>by simp only [jc,R.ok.injEq] at h;subst h;exact⟨x',fun _ _=>rfl,hx⟩
 |y::l,_,x,x',v,h,hx,.cons hy ht=>by
  unfold jc at h;obtain⟨z,h1,h2⟩:=R.aj h;obtain⟨z',e1,r1⟩:=hf h1 hx hy;obtain⟨v',e2,r2⟩:=n8 hf h2 r1 ht;refine⟨v',fun P w=>?_,r2⟩;simp only [List.foldlM_cons,Sem.run_bind,e1,Result.andThen_ok,e2]
variable {l l':List Value}
theorem dH.cons_inv (h:dH ι (v::l) l'):∃v' t',l'=v'::t'∧VR ι v v'∧dH ι l t':=by
 cases h with
 |cons h ht=>exact⟨_,_,rfl,h,ht⟩
include ok in
theorem vU {b:Builtin} {ts:Array TypeId} {cs:Array Bool} {rt:TypeId} {args:List Value} {args':Array Value} {v:Value} (h:aO tb b ts.toList args= .ok v) (ha:dH ι args args'.toList):
 ∃v',(∀w:World,(builtin b ts rt cs args').run tb.P w= .ok (.value v') w)∧VR ι v v':=by
 have wrap:∀{s:Sem Value},(∃v',(∀w:World,s.run tb.P w= .ok v' w)∧VR ι v v')→∃v',(∀w:World,(do pure (Next.value (←s)):Sem Next).run tb.P w= .ok (.value v') w)∧VR ι v v':=by
  rintro s ⟨v',e,r⟩;exact⟨v',fun w=>by simp only [Sem.run_bind,e,Result.andThen_ok,Sem.run_pure],r⟩
 have first:∀{t:TypeId} {l:List TypeId},ts.toList=t::l→ts[0]?=some t:=by
  intro t l e;rw [←Yu,e];rfl
 have firstA:∀{x:Value} {l:List Value},args'.toList=x::l→args'[0]?=some x:=by
  intro t l e;rw [←Yu,e];rfl
 unfold aO at h;split at h
 ·rename_i t l x xs hts;obtain⟨x',t',e,hx,_⟩:=ha.cons_inv;exact wrap (ES ok h hx (first hts) (firstA e))
 ·rename_i t l x xs hts;obtain⟨x',t',e,hx,_⟩:=ha.cons_inv;exact wrap (EM ok h hx (first hts) (firstA e))
 ·obtain⟨x',t',e,hx,ht⟩:=ha.cons_inv;obtain⟨v',e2,r⟩:=n8 (g:=Builtin.min2) (fun h a b=>Ef h a b) h hx ht;exact wrap ⟨v',fun w=>by simp only [Builtin.min_,e];exact e2 _ w,r⟩
 ·obtain⟨x',t',e,hx,ht⟩:=ha.cons_inv;obtain⟨v',e2,r⟩:=n8 (g:=Builtin.max2) (fun h a b=>EP h a b) h hx ht;exact wrap ⟨v',fun w=>by simp only [Builtin.max_,e];exact e2 _ w,r⟩
 ·rename_i a len c;obtain⟨x',t',e,hx,ht⟩:=ha.cons_inv;cases ht;have e':args'= #[x']:=by apply Zz;exact e
  cases hc:Ye 0 (bN c) with
  |false=>rw [hc] at h;cases h
  |true=>
   rw [hc] at h;simp only [cond_true,R.ok.injEq] at h;subst h;have h0:=cK hc;refine wrap ?_;cases hx with
   |sl hl hk=>
    refine⟨_,fun w=>?_,.ptr hl⟩;subst e';show Sem.run tb.P (if bN c≠0 then pure (Value.pointer (some _)) else _) w=_;rw [if_pos (by omega:bN c≠0)];rfl
   |slX hl hk hcc hsz ho hb hlen=>
    rename_i cap' lc;refine⟨_,fun w=>?_,.ptr hl⟩;subst e';show Sem.run tb.P (if cap'≠0 then pure (Value.pointer (some _)) else _) w=_;rw [if_pos (by omega:cap'≠0),ho (by omega)];rfl
 ·obtain⟨x',t',e,hx,ht⟩:=ha.cons_inv;cases ht;have e':args'= #[x']:=by apply Zz;exact e
  simp only [R.ok.injEq] at h;subst h;refine wrap ?_;cases hx;subst e';exact⟨_,fun w=>rfl,.ptrN⟩
 ·cases h
include ok in
theorem zq {x x' v:Value} {xt t:TypeId} {c:Bool} (h:pg tb x t c= .ok v) (hx:VR ι x x'):
 ∃v',(∀w:World,(Instr.typeAssert x' xt t c).run tb.P w= .ok v' w)∧VR ι v v':=by
 have fails:∀{a b:Option TypeId} {m:String},(bif c then(b7 tb t).bind fun z=>.ok (.tuple ⟨[z,.bool false]⟩) else .no 99:R Value)= .ok v→
  ∃v',(∀w:World,(do if c then pure (.tuple #[←zeroValue t,.bool false]) else runtimePanic (.typeAssertion a b t m):Sem Value).run tb.P w= .ok v' w)∧VR ι v v':=by
  intro a b m h;cases c with
  |false=>cases h
  |true=>
   simp only [cond_true] at h;obtain⟨z,hz,h1⟩:=R.aj h;simp only [R.ok.injEq] at h1;subst h1;obtain⟨_,_,_,hzv⟩:=ir hz;refine⟨.tuple ⟨[z,.bool false]⟩,fun w=>?_,.tuple (.cons (hzv ι) (.cons (.bool _) .nil))⟩;simp only [if_true,Sem.run_bind,lU ok hz,Result.andThen_ok,Sem.run_pure]
 have holds:∀{y y':Value},VR ι y y'→(R.ok (bif c then Value.tuple ⟨[y,.bool true]⟩ else y))= .ok v→
  VR ι v (if c then .tuple #[y',.bool true] else y'):=by
  intro y y' hy h;simp only [R.ok.injEq] at h;subst h;cases c with
  |false=>exact hy
  |true=>exact .tuple (.cons hy (.cons (.bool _) .nil))
 unfold pg at h;split at h
 ·rename_i ms hd;cases hx;obtain⟨v',e,r⟩:=fails h;refine⟨v',fun w=>?_,r⟩;simp only [Instr.typeAssert,Sem.run_bind,aI ok hd,Result.andThen_ok];exact e w
 ·rename_i want u y hd;cases hx with
  |iface hy=>
   split at h
   ·rename_i i hi;split at h
    ·rename_i hm;refine⟨_,fun w=>?_,holds (.iface hy) h⟩;simp only [Instr.typeAssert,Sem.run_bind,aI ok hd,fi ok hi,Result.andThen_ok,hm];rfl
    ·rename_i m hm;obtain⟨v',e,r⟩:=fails h;refine⟨v',fun w=>?_,r⟩;simp only [Instr.typeAssert,Sem.run_bind,aI ok hd,fi ok hi,Result.andThen_ok,hm];exact e w
   ·cases h
 ·rename_i d hne hd;cases hx;obtain⟨v',e,r⟩:=fails h;refine⟨v',fun w=>?_,r⟩;simp only [Instr.typeAssert,Sem.run_bind,aI ok hd,Result.andThen_ok];cases d<;>first|exact e w|exact absurd rfl (hne _)
 ·rename_i d u y hne hd;cases hx with
  |iface hy=>
   cases hb:Yc u t with
   |true=>
    obtain rfl:=beq_true hb;rw [hb] at h;simp only [cond_true] at h;refine⟨_,fun w=>?_,holds hy h⟩;simp only [Instr.typeAssert,Sem.run_bind,aI ok hd,Result.andThen_ok];cases d<;>first|(simp only [if_true];rfl)|exact absurd rfl (hne _)
   |false=>
    have hb':=beq_false hb;rw [hb] at h;simp only [cond_false] at h;obtain⟨v',e,r⟩:=fails h;refine⟨v',fun w=>?_,r⟩;simp only [Instr.typeAssert,Sem.run_bind,aI ok hd,Result.andThen_ok];cases d<;>first|(simp only [if_neg hb'];exact e w)|exact absurd rfl (hne _)
 ·cases h
 ·cases h
theorem Di {fn:Fn} (h:∀l,fn= .yield l→False):Dy fn:=by
 cases fn<;>first|trivial|exact(h _ rfl).elim
include ok in
theorem Ar {n:Nat} {τ:T Value} {a:Act} {o:Oper} {v:Value} (h:th tb τ o.op= .ok v) (ht:TR ι n τ a.tmps):
 ∃v',(∀w:World,(execOp a.eval o).run tb.P w= .ok (.value v') w)∧VR ι v v':=by
 have wrap:∀{s:Sem Value},(∃v',(∀w:World,s.run tb.P w= .ok v' w)∧VR ι v v')→∃v',(∀w:World,(do pure (Next.value (←s)):Sem Next).run tb.P w= .ok (.value v') w)∧VR ι v v':=by
  rintro s ⟨v',e,r⟩;exact⟨v',fun w=>by simp only [Sem.run_bind,e,Result.andThen_ok,Sem.run_pure],r⟩
 unfold th at h;split at h<;>rename_i hop<;>simp only [execOp,hop]
 ·exact⟨_,fun w=>rfl,aU h ht⟩
 ·exact⟨_,fun w=>rfl,aU h ht⟩
 ·rename_i c x y;obtain⟨cv,hc,h1⟩:=R.aj h;have hcr:=aU hc ht;split at h1
  ·generalize a.eval c=cv' at hcr⊢;cases hcr;refine⟨a.eval x,fun w=>?_,aU h1 ht⟩;simp only [Sem.run_bind,asBool,Sem.run_pure,Result.andThen_ok,if_true]
  ·generalize a.eval c=cv' at hcr⊢;cases hcr;refine⟨a.eval y,fun w=>?_,aU h1 ht⟩;simp only [Sem.run_bind,asBool,Sem.run_pure,Result.andThen_ok,Yj,if_false]
  ·cases h1
 ·rename_i ty ps;obtain⟨vs,h1,h2⟩:=R.aj h;have:=uJ h1 ht;refine wrap ?_;obtain⟨v',e,r⟩:=BM ok h2 this;refine⟨v',fun w=>?_,r⟩;rw [←e w];congr 2;apply Zz;simp
 ·obtain⟨x,h1,h2⟩:=R.aj h;obtain⟨v',e,r⟩:=KR h2 (aU h1 ht);exact wrap ⟨v',fun w=>e _ w,r⟩
 ·obtain⟨x,h1,h2⟩:=R.aj h;have hx:=aU h1 ht;split at h2
  ·cases h2
  ·rename_i d hne hd;simp only [R.ok.injEq] at h2;subst h2;refine wrap ⟨_,fun w=>?_,.iface hx⟩;simp only [Instr.makeInterface,Sem.run_bind,aI ok hd,Result.andThen_ok];cases d<;>first|rfl|exact absurd rfl (hne _)
  ·cases h2
 ·obtain⟨x,h1,h2⟩:=R.aj h;obtain⟨y,h3,h4⟩:=R.aj h2;have hx:=iq h1 ht;have hy:=iq h3 ht;split at h4
  ·cases h4
  ·rename_i hfn;simp only [R.ok.injEq] at h4;subst h4;refine wrap ⟨_,fun w=>rfl,.func ?_ (by simpa using hx) (by simpa using hy)⟩;exact Di hfn
 ·obtain⟨x,h1,h2⟩:=R.aj h;exact wrap (ub ok h2 (aU h1 ht))
 ·obtain⟨x,h1,h2⟩:=R.aj h;exact wrap (CP ok h2 (aU h1 ht))
 ·obtain⟨x,h1,h2⟩:=R.aj h;obtain⟨y,h3,h4⟩:=R.aj h2;exact wrap (mq ok h4 (aU h1 ht) (aU h3 ht))
 ·obtain⟨x,h1,h2⟩:=R.aj h;obtain⟨y,h3,h4⟩:=R.aj h2;exact wrap (CI ok h4 (aU h1 ht) (aU h3 ht))
 ·rename_i xo i;obtain⟨x,h1,h2⟩:=R.aj h;have hx:=aU h1 ht;split at h2
  ·split at h2
   ·rename_i vs u hu;simp only [R.ok.injEq] at h2;subst h2;generalize a.eval xo=xv' at hx⊢;cases hx with
    |tuple hvs=>
     rename_i vs';obtain⟨u',e2,r⟩:=hvs.get _ _ hu;refine wrap ⟨u',fun w=>?_,r⟩;have:vs'[i]?=some u':=by rw [←Yu];exact e2
     simp only [Instr.extract,this,Sem.run_pure]
   ·cases h2
  ·cases h2
 ·obtain⟨x,h1,h2⟩:=R.aj h;obtain⟨lo,h3,h4⟩:=R.aj h2;obtain⟨hi,h5,h6⟩:=R.aj h4;obtain⟨mx,h7,h8⟩:=R.aj h6;exact wrap (B4 ok h8 (aU h1 ht) (pv h3 ht) (pv h5 ht) (pv h7 ht))
 ·obtain⟨x,h1,h2⟩:=R.aj h;exact wrap (zq ok h2 (aU h1 ht))
 ·obtain⟨x,h1,h2⟩:=R.aj h;have hx:=aU h1 ht;rename_i xo;generalize a.eval xo=xv' at hx⊢;have hx0:=hx;split at h2<;>simp only [R.ok.injEq,reduceCtorEq] at h2<;>subst h2<;>cases hx<;>exact⟨_,fun w=>rfl,hx0⟩
 ·rename_i op ty x y yt;obtain⟨xv,h1,h2⟩:=R.aj h;obtain⟨yv,h3,h4⟩:=R.aj h2;obtain⟨v',e,r⟩:=GW ok h4 (aU h1 ht) (aU h3 ht);refine wrap ⟨v',fun w=>?_,r⟩;simp only [Sem.run_bind,zx h4 (aU h1 ht) (aU h3 ht),Result.andThen_ok,e]
 ·obtain⟨x,h1,h2⟩:=R.aj h;exact wrap (Cm ok h2 (aU h1 ht))
 ·rename_i c;split at h
  ·rename_i b hb;obtain⟨args,h1,h2⟩:=R.aj h;have ha:=iq h1 ht;obtain⟨v',e,r⟩:=vU ok (cs:=c.args.map fun| .const _=>true|_=>false) (rt:=o.type) (args':=c.args.map a.eval) h2 (by simpa using ha);refine⟨v',fun w=>?_,r⟩;simp only [resolve,hb,Sem.run_bind,Sem.run_pure,Result.andThen_ok,invoke];exact e w
  ·cases h
 ·cases h
end
end Go.Am
end
