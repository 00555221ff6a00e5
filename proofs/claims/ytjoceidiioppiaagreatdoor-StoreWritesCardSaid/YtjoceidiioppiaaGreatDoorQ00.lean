/- The abstract machine, the walk of the law and its plain laws, made small by a program; part 0: no conditions but those in each theorem. -/
import Derived.Calls
import Derived.Laws.Sem
set_option maxHeartbeats 16000000
set_option maxRecDepth 100000
set_option linter.unusedSimpArgs false
set_option linter.unusedVariables false
set_option linter.defProp false
noncomputable section
open Array renaming ext'→m6,getD_eq_getD_getElem?→LN,getElem?_setIfInBounds_ne→LO,getElem?_toList→gp,length_toList→xI
open Bool renaming and_eq_true→dW,eq_iff_iff→qk,false_and→Bo,false_eq_true→dR,or_eq_true→DP,true_and→tR,false→ag,true→ae
open ByteArray renaming toList→Ha
open Go renaming Code→aH,IntKind→cS,Operand→bM,Program→cI,TypeId→au,Value→I,World→aF
open Int renaming natCast_nonneg→zq,ofNat→cK,ofNat_eq_natCast→iu
open List renaming all_eq_true→oT,drop_eq_getElem_cons→mq,drop_eq_nil_of_le→DW,foldl_cons→mu,getElem?_eq_getElem→aZ,getElem?_eq_none→ky,getElem?_map→dN,getElem?_range→BA,length→Z,length_cons→cD,length_nil→eB,range→lM,replicate→fQ,take_succ_eq_append_getElem→d_
open List.cons renaming injEq→gq
open Nat renaming add_assoc→rk,add_mul→qo,add_right_comm→xV,beq→aL,beq_eq→qp,ble→av,ble_eq→sS,blt→aO,blt_eq→bZ,div→nc,eq_of_beq_eq_true→eW,eq_zero_or_pos→Hr,le_refl→aI,le_trans→dm,lt_of_le_of_lt→mz,lt_of_lt_of_le→c9,lt_or_ge→ec,lt_succ_self→ua,mod→jU,mod_eq_of_lt→rm,mod_lt→jV,mul_one→qq,ne_of_beq_eq_false→Hs,not_lt_zero→zD,pow_le_pow_right→rn,pow_succ→zE,shiftLeft_eq→Ht,shiftRight_eq_div_pow→rp,succ→qs,succ_eq_add_one→Eg,xor_lt_two_pow→Eh,zero_add→ep,zero_mul→xZ
open Option renaming getD_some→sU,isSome_none→x5,map_some→gX,none→V,some→U
open Option.some renaming inj→iR,injEq→fg
open Go.Result renaming andThen_ok→aP
open Go.Sem renaming run_bind→aM,run_pure→a6
open UInt8 renaming lt_iff_toNat_lt→BV,ofNat→jY,toNat_inj→td
namespace Go
def aU:=@absurd
def bJ:=@cond_false
def aJ:=@cond_true
def cX:=@congrArg
def bg:=@if_false
def ax:=@if_neg
def aA:=@if_pos
def bB:=@if_true
end Go
namespace Go.Am
inductive T (α:Type) where
 |e:T α
 |n (l:T α) (v:Option α) (r:T α):T α
namespace T
variable {α:Type}
def get(t:T α):Nat->Option α:=
 T.rec (motive:=λ _=>Nat->Option α) (λ _=>V)
  (λ _ v _ gl gr k=>Bool.rec (Bool.rec (gr (Nat.pred (nc k 2))) (gl (nc k 2)) (aL (jU k 2) 1)) v (aL k 0)) t
def put(x : α)(f : Nat) : T α -> Nat -> T α :=
  Nat.rec (motive := λ _ => T α -> Nat -> T α) (λ t _ => t)
    (λ _ ih t k => T.rec (motive := λ _ => T α)
       (Bool.rec (Bool.rec (n e V (ih e (Nat.pred (nc k 2)))) (n (ih e (nc k 2)) V e) (aL (jU k 2) 1)) (n e (U x) e) (aL k 0))
       (λ l v r _ _ => Bool.rec (Bool.rec (n l v (ih r (Nat.pred (nc k 2)))) (n (ih l (nc k 2)) v r) (aL (jU k 2) 1)) (n l (U x) r) (aL k 0)) t) f
def pv(k:Nat):(e:T α).get k=V:=rfl
def FI(l r:T α)(v:Option α)(k:Nat):
 (n l v r).get k=if k=0 then v else if k % 2=1 then l.get (k/2)else r.get (k/2-1):=by
 show Bool.rec (motive:=λ _=>Option α) (Bool.rec (motive:=λ _=>Option α) (r.get (Nat.pred (nc k 2))) (l.get (nc k 2)) (aL (jU k 2) 1)) v (aL k 0)=_;by_cases h:k=0
 .subst h;rfl
 .have h0:aL k 0=ag:=by cases k;exact aU rfl h;rfl
  rw[h0,ax h];show Bool.rec (motive:=λ _=>Option α) _ _ (aL (jU k 2) 1)=_;by_cases h1:k % 2=1
  .have e1:aL (jU k 2) 1=ae:=by rw[qp];exact h1
   rw[e1,aA h1];rfl
  .have e1:aL (jU k 2) 1=ag:=by
    cases hb:aL (jU k 2) 1 with
    |false=>rfl
    |true=>exact aU (eW hb) h1
   rw[e1,ax h1];rfl
def Df(x:α)(f k:Nat):put x (f+1) (e:T α) k=
 if k=0 then n e (U x) e else if k % 2=1 then n (put x f e (k/2)) V e else n e V (put x f e (k/2-1)):=by
 show Bool.rec (motive:=λ _=>T α) (Bool.rec (motive:=λ _=>T α) (n e V (put x f e (Nat.pred (nc k 2)))) (n (put x f e (nc k 2)) V e) (aL (jU k 2) 1)) (n e (U x) e) (aL k 0)=_;by_cases h:k=0
 .subst h;rfl
 .have h0:aL k 0=ag:=by cases k;exact aU rfl h;rfl
  rw[h0,ax h];show Bool.rec (motive:=λ _=>T α) _ _ (aL (jU k 2) 1)=_;by_cases h1:k % 2=1
  .have e1:aL (jU k 2) 1=ae:=by rw[qp];exact h1
   rw[e1,aA h1];rfl
  .have e1:aL (jU k 2) 1=ag:=by
    cases hb:aL (jU k 2) 1 with
    |false=>rfl
    |true=>exact aU (eW hb) h1
   rw[e1,ax h1];rfl
def qg(x:α)(f k:Nat)(l r:T α)(v:Option α):put x (f+1) (n l v r) k=
 if k=0 then n l (U x) r else if k % 2=1 then n (put x f l (k/2)) v r else n l v (put x f r (k/2-1)):=by
 show Bool.rec (motive:=λ _=>T α) (Bool.rec (motive:=λ _=>T α) (n l v (put x f r (Nat.pred (nc k 2)))) (n (put x f l (nc k 2)) v r) (aL (jU k 2) 1)) (n l (U x) r) (aL k 0)=_;by_cases h:k=0
 .subst h;rfl
 .have h0:aL k 0=ag:=by cases k;exact aU rfl h;rfl
  rw[h0,ax h];show Bool.rec (motive:=λ _=>T α) _ _ (aL (jU k 2) 1)=_;by_cases h1:k % 2=1
  .have e1:aL (jU k 2) 1=ae:=by rw[qp];exact h1
   rw[e1,aA h1];rfl
  .have e1:aL (jU k 2) 1=ag:=by
    cases hb:aL (jU k 2) 1 with
    |false=>rfl
    |true=>exact aU (eW hb) h1
   rw[e1,ax h1];rfl
def OX(x:α):∀(f:Nat) (t:T α) (k j:Nat),k<2^f-1\/k<f->(put x f t k).get j=if j=k then U x else t.get j:=by
 intro f
 induction f with
 |zero=>intro t k j h;simp at h
 |succ f ih=>
  intro t k j h;have b1:k % 2=1->(k/2<2^f-1\/k/2<f):=by
   intro h1;rcases h with h|h
   .left;rw[zE]at h;omega
   .right;omega
  have b2:k≠0->k % 2≠1->(k/2-1<2^f-1\/k/2-1<f):=by
   intro h0 h1;rcases h with h|h
   .left;rw[zE]at h;omega
   .right;omega
  have aux:∀(l r:T α) (v:Option α),(t=n l v r\/(t=e/\l=e/\r=e/\v=V))->(put x (f+1) t k).get j=if j=k then U x else t.get j:=by
   intro l r v ht;have e1:put x (f+1) t k=if k=0 then n l (U x) r else if k % 2=1 then n (put x f l (k/2)) v r else n l v (put x f r (k/2-1)):=by
    rcases ht with rfl|⟨rfl,rfl,rfl,rfl⟩
    .exact qg ..
    .exact Df ..
   have e2:t.get j=if j=0 then v else if j % 2=1 then l.get (j/2)else r.get (j/2-1):=by
    rcases ht with rfl|⟨rfl,rfl,rfl,rfl⟩
    .exact FI ..
    .simp[pv]
   rw[e1,e2];by_cases k0:k=0
   .rw[aA k0,FI];by_cases j0:j=0
    .simp[j0,k0]
    .rw[ax j0,ax (by omega:¬j=k),ax j0]
   .rw[ax k0];by_cases k1:k % 2=1
    .rw[aA k1,FI,ih _ _ _ (b1 k1)];by_cases j0:j=0
     .rw[aA j0,ax (by omega:¬j=k),aA j0]
     .rw[ax j0,ax j0];by_cases j1:j % 2=1
      .rw[aA j1,aA j1];by_cases hjk:j=k
       .simp[hjk]
       .rw[ax (by omega:¬j/2=k/2),ax hjk]
      .rw[ax j1,ax j1,ax (by omega:¬j=k)]
    .rw[ax k1,FI,ih _ _ _ (b2 k0 k1)];by_cases j0:j=0
     .rw[aA j0,ax (by omega:¬j=k),aA j0]
     .rw[ax j0,ax j0];by_cases j1:j % 2=1
      .rw[aA j1,aA j1,ax (by omega:¬j=k)]
      .rw[ax j1,ax j1];by_cases hjk:j=k
       .simp[hjk]
       .rw[ax (by omega:¬j/2-1=k/2-1),ax hjk]
  cases t with
  |e=>exact aux e e V (.inr ⟨rfl,rfl,rfl,rfl⟩)
  |n l v r=>exact aux l r v (.inl rfl)
def set(t:T α)(k:Nat)(x:α):T α:=put x (bif aO k 18446744073709551615 then 64 else qs k) t k
def bR(t:T α)(k j:Nat)(x:α):(t.set k x).get j=if j=k then U x else t.get j:=by
 unfold set;cases h:aO k 18446744073709551615 with
 |true=>
  have h':k<18446744073709551615:=by simpa[bZ]using h
  exact OX x 64 t k j (.inl h')
 |false=>exact OX x (k+1) t k j (.inr (ua k))
def bW(t:T α)(i:Nat)(l:List α):T α:=
 List.rec (motive:=λ _=>Nat->T α->T α) (λ _ t=>t) (λ x _ ih i t=>ih (qs i) (t.set i x)) l i t
def jR(t:T α)(i:Nat):t.bW i []=t:=rfl
def gS(t:T α)(i:Nat)(x:α)(l:List α):t.bW i (x::l)=(t.set i x).bW (i+1) l:=rfl
def oK(l:List α):∀(t:T α) (i j:Nat),(t.bW i l).get j=if i<=j/\j<i+Z l then l[j-i]? else t.get j:=by
 induction l with
 |nil=>intro t i j;rw[jR,ax];simp only[eB];omega
 |cons x l ih=>
  intro t i j;rw[gS,ih,bR];simp only[cD];by_cases h1:i+1<=j/\j<i+1+Z l
  .rw[aA h1,aA (by omega)];obtain⟨d,rfl⟩:∃d,j=i+1+d:=⟨j-(i+1),by omega⟩;have e1:i+1+d-(i+1)=d:=by omega
   have e2:i+1+d-i=d+1:=by omega
   rw[e1,e2];rfl
  .rw[ax h1];by_cases h2:j=i
   .subst h2;rw[aA rfl,aA (by omega)];simp
   .rw[ax h2,ax (by omega)]
def hZ(t:T α)(n:Nat):Nat->Option (List α):=
 Nat.rec (motive:=λ _=>Nat->Option (List α)) (λ _=>U [])
  (λ _ ih i=>Option.rec V (λ x=>Option.rec V (λ l=>U (x::l)) (ih (qs i))) (t.get i)) n
def Zs(t:T α)(i:Nat):t.hZ 0 i=U []:=rfl
def O0(t:T α)(n i:Nat):t.hZ (n+1) i=match t.get i with|none=>V|some x=>match t.hZ n (i+1)with|none=>V|some l=>U (x::l):=by
 show Option.rec (motive:=λ _=>Option (List α)) V (λ x=>Option.rec (motive:=λ _=>Option (List α)) V (λ l=>U (x::l)) (t.hZ n (i+1))) (t.get i)=_;cases t.get i with
 |none=>rfl
 |some x=>cases t.hZ n (i+1)<;>rfl
def CS(t:T α):∀(n i:Nat) (l:List α),t.hZ n i=U l->Z l=n/\∀j,j<n->t.get (i+j)=l[j]?:=by
 intro n
 induction n with
 |zero=>intro i l h;rw[Zs]at h;cases h;exact⟨rfl,λ j hj=>aU hj (zD _)⟩
 |succ n ih=>
  intro i l h;rw[O0]at h;cases hx:t.get i with
  |none=>rw[hx]at h;cases h
  |some x=>
   rw[hx]at h;simp only at h;cases hl:t.hZ n (i+1)with
   |none=>rw[hl]at h;cases h
   |some l'=>
    rw[hl]at h;simp only[fg]at h;subst h;obtain⟨h1,h2⟩:=ih _ _ hl;refine⟨by simp[h1],λ j hj=>?_⟩;cases j with
    |zero=>simpa using hx
    |succ j=>have:=h2 j (by omega);rw[show i+(j+1)=i+1+j by omega,this];simp
end T
def T.ofList{α:Type}(l:List α):T α:=T.bW .e 0 l
def T.Ao{α:Type}(l:List α)(i:Nat):(T.ofList l).get i=l[i]?:=by
 unfold T.ofList;rw[T.oK];by_cases hi:i<Z l
 .rw[aA (by omega)];simp
 .rw[ax (by omega),T.pv,ky (by omega)]
inductive R (α:Type) where
 |ok (a:α)
 |no (why:Nat)
def ay:=@R.ok.injEq
def R.bind{α β:Type}(x:R α)(f:α->R β):R β:=
 match x with
 |.ok a=>f a
 |.no w=>.no w
structure jd where
 state:LoopState
 pending:Option aH
 fn:FuncId
 tmps:T I
 n:Nat
 params:List Tmp
 assign:aH
 body:aH
 defers:Nat
inductive Kd where
 |var (n:Nat)
 |row
 |mark
 |room (n:Nat)
inductive Ob where
 |cells (t:au) (x:Kd) (fz:Nat) (c:T I)
 |map (es:List MapEntry) (clock:Nat)
 |sit (s:ByteArray) (pos:Nat)
 |mit (m c:Nat) (b:Option Nat)
 |loop (r:jd)
 |defd
 |dead
structure Mem where
 heap:T Ob
 next:Nat
def Mem.get(A:Mem)(b:Nat):Option Ob:=A.heap.get b
def Mem.set(A:Mem)(b:Nat)(o:Ob):Mem:={A with heap:=A.heap.set b o}
def Mem.alloc(A:Mem)(o:Ob):Mem:={heap:=A.heap.set A.next o,next:=qs A.next}
def GB(k:Nat):Nat:=18446744073709551617+2*k
def FJ(g:Nat->Option Ob)(k:Nat):R I:=
 match g k with
 |some (.cells _ .row fz _)=>bif aL fz (GB k)then .ok (.pointer (U ⟨k,0,V⟩))else .no 201
 |_=>.no 201
def rX:Nat->I->Bool
 |0,_=>ag
 |d+1,v=>
  match v with
  |.bool _|.int _ _|.string _|.pointer V|.slice V 0 0|.map V|.nilFunc|.nilIface=>ae
  |.iface _ v=>rX d v
  |.agg l=>l.toList.all (rX d)
  |.tuple l=>l.toList.all (rX d)
  |.func (.func _) ⟨[]⟩ ⟨[]⟩=>ae
  |_=>ag
structure aN where
 P:cI
 ty:T TypeInfo
 fn:T Func
 ex:T Nat
 hk:T (List I->Mem->R (I×Mem))
def aN.aB(tb:aN)(t:au):Option TypeDesc:=
 match tb.ty.get t with
 |some i=>match i.desc with
  |.named _ u=>match tb.ty.get u with
   |some j=>U j.desc
   |none=>V
  |d=>U d
 |none=>V
def di(k:cS)(n:Int):Bool:=
 match k,n with
 |.i64,.ofNat m=>aO m 9223372036854775808
 |.i64,.negSucc m=>aO m 9223372036854775808
 |.u8,.ofNat m=>aO m 256
 |.u16,.ofNat m=>aO m 65536
 |.u32,.ofNat m=>aO m 4294967296
 |.u64,.ofNat m=>aO m 18446744073709551616
 |.i32,.ofNat m=>aO m 2147483648
 |.i32,.negSucc m=>aO m 2147483648
 |_,_=>ag
def eL(k:cS)(n:Int):Int:=bif di k n then n else k.wrap n
def nW(a b:Int):Bool:=
 match a,b with
 |.ofNat x,.ofNat y=>aO x y
 |.ofNat _,.negSucc _=>ag
 |.negSucc _,.ofNat _=>ae
 |.negSucc x,.negSucc y=>aO y x
def kV(a b:Int):Bool:=
 match a,b with
 |.ofNat x,.ofNat y=>aL x y
 |.negSucc x,.negSucc y=>aL x y
 |_,_=>ag
def jv(a b:cS):Bool:=
 match a,b with
 |.i8,.i8|.i16,.i16|.i32,.i32|.i64,.i64|.u8,.u8|.u16,.u16|.u32,.u32|.u64,.u64=>ae
 |_,_=>ag
def Cg(op:BinOp)(k:cS)(x y:Int):R I:=
 match op,x,y with
 |.and,.ofNat a,.ofNat b=>bif di k x&&di k y then .ok (.int k (.ofNat (Nat.land a b)))else .no 10
 |.or,.ofNat a,.ofNat b=>bif di k x&&di k y then .ok (.int k (.ofNat (Nat.lor a b)))else .no 11
 |.xor,.ofNat a,.ofNat b=>bif di k x&&di k y then .ok (.int k (.ofNat (Nat.xor a b)))else .no 12
 |.and,.ofNat a,.negSucc b=>bif di k x&&di k y then .ok (.int k (.ofNat (Nat.xor a (Nat.land a b))))else .no 10
 |_,_,_=>.no 13
def Ds(op:BinOp)(k:cS)(x y:Int):R I:=
 match op,x,y with
 |.shr,.ofNat a,.ofNat b=>.ok (.int k (.ofNat (Nat.shiftRight a (bif aO b k.bits then b else k.bits))))
 |.shl,.ofNat a,.ofNat b=>bif aO b k.bits then .ok (.int k (eL k (.ofNat (Nat.shiftLeft a b))))else .ok (.int k 0)
 |_,_,_=>.no 14
def Cx(op:BinOp)(k:cS)(x y:Int):R I:=
 match op,x,y with
 |.quo,.ofNat a,.ofNat (b+1)=>.ok (.int k (eL k (.ofNat (nc a (b+1)))))
 |.rem,.ofNat a,.ofNat (b+1)=>.ok (.int k (.ofNat (jU a (b+1))))
 |.quo,x,y=>bif kV y 0 then .no 15 else .ok (.int k (k.wrap (x.tdiv y)))
 |.rem,x,y=>bif kV y 0 then .no 15 else .ok (.int k (x.tmod y))
 |_,_,_=>.no 16
def b6:List UInt8->List UInt8->Bool
 |_,[]=>ag
 | [],_::_=>ae
 |a::x,b::y=>aO a.toNat b.toNat||(aL a.toNat b.toNat&&b6 x y)
def oz:List UInt8->List UInt8->Bool
 | [],[]=>ae
 |a::x,b::y=>aL a.toNat b.toNat&&oz x y
 |_,_=>ag
def ai(l:List UInt8):I:=.string ⟨⟨l⟩⟩
def ft(op:BinOp)(x y:List UInt8):R I:=
 match op with
 |.add=>bif aO (Z x+Z y) 4611686018427387904 then .ok (ai (x++y))else .no 20
 |.eql=>.ok (.bool (oz x y))
 |.neq=>.ok (.bool (!oz x y))
 |.lss=>.ok (.bool (b6 x y))
 |.leq=>.ok (.bool (b6 x y||oz x y))
 |.gtr=>.ok (.bool (!(b6 x y||oz x y)))
 |.geq=>.ok (.bool (!b6 x y))
 |_=>.no 21
def a_(op:BinOp)(k:cS)(a b:Int):R I:=
 match op with
 |.add=>.ok (.int k (eL k (a+b)))
 |.sub=>.ok (.int k (eL k (a-b)))
 |.mul=>.ok (.int k (eL k (a*b)))
 |.quo|.rem=>Cx op k a b
 |.and|.or|.xor|.andNot=>Cg op k a b
 |.eql=>.ok (.bool (kV a b))
 |.neq=>.ok (.bool (!kV a b))
 |.lss=>.ok (.bool (nW a b))
 |.leq=>.ok (.bool (!nW b a))
 |.gtr=>.ok (.bool (nW b a))
 |.geq=>.ok (.bool (!nW a b))
 |.shl|.shr=>.no 22
def Tk(n:Nat):I:=.complex .f64 n 0
def J3(op:BinOp)(n:Nat)(y:Int):R I:=
 match op,y with
 |.lss,.ofNat m=>bif av m n then .ok (.bool ag)else .no 17
 |.geq,.ofNat m=>bif av m n then .ok (.bool ae)else .no 17
 |.sub,.ofNat m=>bif av m n then .ok (Tk (n-m))else .no 17
 |_,_=>.no 18
def J4(op:BinOp)(y:Int)(n:Nat):R I:=
 match op,y with
 |.gtr,.ofNat m=>bif av m n then .ok (.bool ag)else .no 17
 |.leq,.ofNat m=>bif av m n then .ok (.bool ae)else .no 17
 |_,_=>.no 18
def ij(op:BinOp)(d:Option TypeDesc)(x y:I):R I:=
 match x,y with
 |.complex .f64 n 0,.int .i64 y=>J3 op n y
 |.int .i64 y,.complex .f64 n 0=>J4 op y n
 |.int k a,.int k' b=>
  match op with
  |.shl|.shr=>Ds op k a b
  |_=>bif jv k k' then a_ op k a b else .no 23
 |.string a,.string b=>ft op a.data.toList b.data.toList
 |.bool a,.bool b=>
  match op,d with
  |.eql,U .bool=>.ok (.bool (bif a then b else !b))
  |.neq,U .bool=>.ok (.bool (bif a then !b else b))
  |_,_=>.no 24
 |_,_=>.no 25
def Be(op:UnOp)(x:I):R I:=
 match op,x with
 |.neg,.int k n=>.ok (.int k (eL k (0-n)))
 |.xor,.int k (.ofNat n)=>
  bif k.signed then .ok (.int k (eL k (.negSucc n)))
  else bif di k (.ofNat n)then .ok (.int k (.ofNat (2^k.bits-1-n)))else .no 26
 |.xor,.int k (.negSucc n)=>bif k.signed then .ok (.int k (eL k (.ofNat n)))else .no 26
 |.not,.bool b=>.ok (.bool (!b))
 |_,_=>.no 27
def ed(c:Nat):Bool:=aL (jU c 2) 0
def bV(c:Nat):Nat:=bif ed c then nc c 2 else nc (nc c 2) 65536
def hY(c:Nat):Nat:=jU (nc c 2) 65536
def cP(cap es:Nat):Nat:=2*(cap*65536+es)+1
def p_(c l:Nat):Nat:=bif ed c then 2*(bV c-l)else cP (bV c-l) (hY c)
def lY(c size:Nat):Bool:=bif ed c then ae else aL (hY c) size
def jx(v:I):R Nat:=
 match v with
 |.int _ (.ofNat n)=>.ok n
 |_=>.no 30
def bound(v:Option I)(d most:Nat):R Nat:=
 match v with
 |none=>.ok d
 |some v=>match jx v with
  |.ok n=>bif av n most then .ok n else .no 31
  |.no w=>.no w
def g_(a:Addr)(n:Nat):Addr:=⟨a.block,a.off+n,V⟩
def bk(tb:aN)(t:au):R Nat:=
 match tb.ty.get t with
 |some i=>.ok i.size
 |none=>.no 32
def iL(tb:aN)(t:au)(x:I)(lo hi mx:Option I):R I:=
 match tb.aB t,x with
 |some .string,.string s=>
  match mx with
  |some _=>.no 33
  |none=>(bound hi (Z s.data.toList) (Z s.data.toList)).bind λ h=>(bound lo 0 h).bind λ l=>
   .ok (ai ((s.data.toList.take h).drop l))
 |some (.slice elem),.slice a len cap=>
  match mx with
  |none=>(bound hi len (bV cap)).bind λ h=>(bound lo 0 h).bind λ l=>(bk tb elem).bind λ size=>
   match a with
   |none=>.ok (.slice V 0 0)
   |some a=>match a.spot with
    |some _=>.no 34
    |none=>bif ed cap&&aL (bV cap) l then .ok (.slice (U a) (h-l) 0)
     else bif lY cap size then .ok (.slice (U (g_ a (l*size))) (h-l) (p_ cap l))else .no 35
  |some mv=>(bound (U mv) 0 (bV cap)).bind λ m=>(bound hi 0 m).bind λ h=>(bound lo 0 h).bind λ l=>(bk tb elem).bind λ size=>
   match a,hi with
   |_,V=>.no 36
   |none,_=>.ok (.slice V 0 0)
   |some a,U _=>match a.spot with
    |some _=>.no 37
    |none=>bif ed cap||(lY cap size&&aO 0 (bV cap))then
     bif aL m l then .ok (.slice (U a) (h-l) 0)else .ok (.slice (U (g_ a (l*size))) (h-l) (2*(m-l)))
     else .no 37
 |some (.array n elem),.pointer (U a)=>
  match mx,a.spot with
  |none,V=>(bound hi n n).bind λ h=>(bound lo 0 h).bind λ l=>(bk tb elem).bind λ size=>
   bif aL n l then .ok (.slice (U a) (h-l) 0)else .ok (.slice (U (g_ a (l*size))) (h-l) (2*(n-l)))
  |_,_=>.no 38
 |_,_=>.no 39
def bK(tb:aN)(t:au)(x:I)(i:Nat):R I:=
 match tb.aB t,x with
 |some (.struct fs),.pointer (U a)=>
  match a.spot,fs.toList[i]? with
  |none,U f=>(bk tb f.type).bind λ n=>bif aL n 0 then .no 40 else .ok (.pointer (U (g_ a f.offset)))
  |_,_=>.no 41
 |_,_=>.no 42
def eE(tb:aN)(t:au)(x i:I):R I:=
 match jx i with
 |.no w=>.no w
 |.ok i=>
  match tb.aB t,x with
  |some (.array len elem),.pointer (U a)=>
   match a.spot with
   |some _=>.no 43
   |none=>bif aO i len then(bk tb elem).bind λ n=>.ok (.pointer (U (g_ a (i*n))))else .no 44
  |some (.slice elem),.slice (U a) len _=>
   match a.spot with
   |some _=>.no 45
   |none=>bif aO i len then(bk tb elem).bind λ n=>.ok (.pointer (U (g_ a (i*n))))else .no 46
  |_,_=>.no 47
def en:TypeDesc->Bool
 |.struct _|.array _ _=>ae
 |_=>ag
def nZ(tb:aN)(t:au)(cs:List I)(off:Nat):R I:=
 match tb.aB t with
 |none=>.no 48
 |some d=>bif en d then(bk tb t).bind λ n=>.ok (.agg ⟨(cs.drop off).take n⟩)
  else match cs[off]? with
   |some v=>.ok v
   |none=>.no 49
def Ag(tb:aN)(t:au)(x:I)(i:Nat):R I:=
 match tb.aB t,x with
 |some (.struct fs),.agg cs=>match fs.toList[i]? with
  |some f=>nZ tb f.type cs.toList f.offset
  |none=>.no 50
 |_,_=>.no 51
def uL(tb:aN)(t:au)(x i:I):R I:=
 match jx i with
 |.no w=>.no w
 |.ok i=>
  match tb.aB t,x with
  |some (.array len elem),.agg cs=>bif aO i len then(bk tb elem).bind λ n=>nZ tb elem cs.toList (i*n)else .no 52
  |some .string,.string s=>match s.data.toList[i]? with
   |some b=>.ok (.int .u8 (.ofNat b.toNat))
   |none=>.no 53
  |_,_=>.no 54
def xA(cells:List I)(off:Nat)(vs:List I):List I:=cells.take off++vs++cells.drop (off+Z vs)
def wT(place:Nat->Option (Nat×Nat))(cells:List I):List (Nat×I)->Option (List I)
 | []=>U cells
 |(i,v)::rest=>
  match place i with
  |none=>V
  |some (off,size)=>
   bif aL (Z v.cells.toList) size&&av (off+size) (Z cells)then wT place (xA cells off v.cells.toList) rest else V
def Dc(tb:aN):List Field->R (List (Nat×Nat))
 | []=>.ok []
 |f::fs=>(bk tb f.type).bind λ n=>(Dc tb fs).bind λ l=>.ok ((f.offset,n)::l)
def dj(tb:aN)(t:au):R I:=
 match tb.ty.get t with
 |some i=>match i.zero with
  |some v=>bif rX 3 v then .ok v else .no 55
  |none=>.no 55
 |none=>.no 56
def eu(tb:aN)(t:au)(parts:List (Nat×I)):R I:=
 (dj tb t).bind λ zero=>
 match tb.aB t with
 |some (.struct fs)=>(Dc tb fs.toList).bind λ places=>
  match wT (λ i=>places[i]?) zero.cells.toList parts with
  |some cells=>.ok (.agg ⟨cells⟩)
  |none=>.no 57
 |some (.array _ elem)=>(bk tb elem).bind λ n=>
  match wT (λ i=>U (i*n,n)) zero.cells.toList parts with
  |some cells=>.ok (.agg ⟨cells⟩)
  |none=>.no 58
 |_=>.no 59
def n_(zero:List I):Nat->List I
 |0=>[]
 |n+1=>zero++n_ zero n
def fu(tb:aN)(t:au):R (Nat×List I):=
 (dj tb t).bind λ z=>(bk tb t).bind λ n=>bif aL (Z z.cells.toList) n then .ok (n,z.cells.toList)else .no 60
def j'(tb:aN)(src dst:au)(x:I):R I:=
 match tb.aB src,tb.aB dst,x with
 |some _,U (.int k),.int _ n=>.ok (.int k (eL k n))
 |some _,U .string,.string s=>.ok (.string s)
 |_,_,_=>.no 61
def aj(tb:aN)(g:Nat->Option Ob)(t:au)(x:I):R I:=
 match x with
 |.pointer (U a)=>
  match a.spot,g a.block,tb.aB t with
  |none,U (.cells _ _ _ c),U d=>
   bif en d then(bk tb t).bind λ n=>match c.hZ n a.off with
    |some l=>.ok (.agg ⟨l⟩)
    |none=>.no 70
   else match c.get a.off with
    |some v=>.ok v
    |none=>.no 71
  |_,_,_=>.no 72
 |_=>.no 73
def bytesOf:List I->R (List UInt8)
 | []=>.ok []
 |.int .u8 (.ofNat n)::vs=>(bytesOf vs).bind λ l=>.ok (jY n::l)
 |_=>.no 74
def gh(g:Nat->Option Ob)(size n:Nat)(a:Option Addr):R (List I):=
 match a with
 |none=>.ok []
 |some a=>bif aL (n*size) 0 then .ok []else match a.spot,g a.block with
  |none,U (.cells _ _ _ c)=>match c.hZ (n*size) a.off with
   |some l=>.ok l
   |none=>.no 75
  |_,_=>.no 76
def zb(g:Nat->Option Ob)(x:I):R I:=
 match x with
 |.slice V _ _=>.ok (ai [])
 |.slice (U a) len _=>(gh g 1 len (U a)).bind λ vs=>(bytesOf vs).bind λ l=>.ok (ai l)
 |_=>.no 77
def wZ(a b:I):Option Bool:=
 match a,b with
 |.int k x,.int k' y=>bif jv k k' then U (kV x y)else V
 |.string x,.string y=>U (oz x.data.toList y.data.toList)
 |_,_=>V
def findF(k:I):List MapEntry->Nat->Option (Option (Nat×I))
 | [],_=>U V
 |e::es,i=>
  match wZ k e.key with
  |some ae=>U (U (i,e.val))
  |some ag=>findF k es (qs i)
  |none=>V
def h_(tb:aN)(t:au)(k:I):Bool:=
 match tb.aB t,k with
 |some (.int _),.int _ _=>ae
 |some .string,.string _=>ae
 |_,_=>ag
def wJ(g:Nat->Option Ob)(x:I):R (List MapEntry):=
 match x with
 |.map V=>.ok []
 |.map (U r)=>match g r with
  |some (.map es _)=>.ok es
  |_=>.no 78
 |_=>.no 79
def qf(tb:aN)(g:Nat->Option Ob)(t:au)(x k:I)(ok:Bool):R I:=
 match tb.aB t with
 |some (.map key elem)=>
  bif h_ tb key k then(wJ g x).bind λ es=>
   match findF k es 0 with
   |some (U (_,v))=>.ok (bif ok then .tuple ⟨[v,.bool ae]⟩else v)
   |some V=>(dj tb elem).bind λ z=>.ok (bif ok then .tuple ⟨[z,.bool ag]⟩else z)
   |none=>.no 80
  else .no 81
 |_=>.no 82
def ptrEq(g:Nat->Option Ob)(a b:Option Addr):R Bool:=
 match a,b with
 |none,V=>.ok ae
 |none,U _=>.ok ag
 |some _,V=>.ok ag
 |some a,U b=>
  match a.spot,b.spot with
  |none,V=>
   bif aL a.block b.block then .ok (aL a.off b.off)
   else match g a.block,g b.block with
    |some (.cells _ (.var _) _ _),U (.cells _ (.var _) _ _)=>.ok ag
    |_,_=>.no 83
  |_,_=>.no 84
def wS(tb:aN)(eq:au->I->I->R Bool)(xs ys:List I):List Field->R Bool
 | []=>.ok ae
 |f::fs=>bif f.name== "_" then .no 85 else
  (nZ tb f.type xs f.offset).bind λ a=>(nZ tb f.type ys f.offset).bind λ b=>(eq f.type a b).bind λ
   |true=>wS tb eq xs ys fs
   |false=>.ok ag
def Cz(tb:aN)(eq:au->I->I->R Bool)(elem:au)(size:Nat)(xs ys:List I):(n i:Nat)->R Bool
 |0,_=>.ok ae
 |n+1,i=>
  (nZ tb elem xs (i*size)).bind λ a=>(nZ tb elem ys (i*size)).bind λ b=>(eq elem a b).bind λ
   |true=>Cz tb eq elem size xs ys n (i+1)
   |false=>.ok ag
def iG(tb:aN)(g:Nat->Option Ob):(d:Nat)->au->I->I->R Bool
 |0,_,_,_=>.no 86
 |d+1,t,x,y=>
  match tb.aB t,x,y with
  |some .bool,.bool a,.bool b=>.ok (bif a then b else !b)
  |some (.int _),.int k a,.int k' b=>bif jv k k' then .ok (kV a b)else .no 87
  |some .string,.string a,.string b=>.ok (oz a.data.toList b.data.toList)
  |some (.pointer elem),.pointer a,.pointer b=>(bk tb elem).bind λ n=>match a,b with
   |some _,U _=>bif aL n 0 then .no 88 else ptrEq g a b
   |_,_=>ptrEq g a b
  |some (.interface _),.nilIface,.nilIface=>.ok ae
  |some (.interface _),.nilIface,.iface _ _=>.ok ag
  |some (.interface _),.iface _ _,.nilIface=>.ok ag
  |some (.interface _),.iface tx vx,.iface ty vy=>
   bif aL tx ty then
    match tb.ty.get tx with
    |some i=>bif i.comparable then iG tb g d tx vx vy else .no 89
    |none=>.no 90
   else .ok ag
  |some (.struct fs),.agg xs,.agg ys=>
   bif tb.P.stoodInHeld t then .no 91 else wS tb (iG tb g d) xs.toList ys.toList fs.toList
  |some (.array len elem),.agg xs,.agg ys=>(bk tb elem).bind λ n=>Cz tb (iG tb g d) elem n xs.toList ys.toList len 0
  |some (.slice _),.slice V _ _,.slice b _ _=>.ok (Option.isNone b)
  |some (.slice _),.slice (U _) _ _,.slice V _ _=>.ok ag
  |some (.map _ _),.map V,.map b=>.ok (Option.isNone b)
  |some (.map _ _),.map (U _),.map V=>.ok ag
  |some (.func _ _ _),.nilFunc,.nilFunc=>.ok ae
  |some (.func _ _ _),.nilFunc,.func _ _ _=>.ok ag
  |some (.func _ _ _),.func _ _ _,.nilFunc=>.ok ag
  |_,_,_=>.no 92
def CX:bM->Bool
 |.const _=>ae
 |_=>ag
def pr(tb:aN)(t:au)(x y:bM)(a b:I):Bool:=
 match a,b with
 |.nilIface,.nilIface=>CX x||CX y
 |.agg _,.agg _=>!tb.P.eqGuardType tb.P.depth t
 |_,_=>ae
def fU(tb:aN)(g:Nat->Option Ob)(op:BinOp)(t:au)(x y:bM)(a b:I):R I:=
 bif pr tb t x y a b then
  match op with
  |.eql=>(iG tb g 100 t a b).bind λ r=>.ok (.bool r)
  |.neq=>(iG tb g 100 t a b).bind λ r=>.ok (.bool (!r))
  |_=>.no 93
 else .no 94
def J8(x y:I):R I:=
 match x,y with
 |.int k a,.int k' b=>bif jv k k' then .ok (.int k (bif nW a b then b else a))else .no 95
 |_,_=>.no 96
def J_(x y:I):R I:=
 match x,y with
 |.int k a,.int k' b=>bif jv k k' then .ok (.int k (bif nW b a then b else a))else .no 97
 |_,_=>.no 98
def Aj(f:I->I->R I):I->List I->R I
 |x,[]=>.ok x
 |x,y::l=>(f x y).bind λ z=>Aj f z l
def Ce(tb:aN)(x:I)(asserted:au)(ok:Bool):R I:=
 let fails:R I:=bif ok then(dj tb asserted).bind λ z=>.ok (.tuple ⟨[z,.bool ag]⟩)else .no 99
 let holds (v:I):R I:=.ok (bif ok then .tuple ⟨[v,.bool ae]⟩else v)
 match tb.aB asserted,x with
 |some (.interface _),.nilIface=>fails
 |some (.interface want),.iface t _=>
  match tb.ty.get t with
  |some i=>match Instr.missingMethod want i.methods with
   |none=>holds x
   |some _=>fails
  |none=>.no 100
 |some _,.nilIface=>fails
 |some _,.iface t v=>bif aL t asserted then holds v else fails
 |none,_=>.no 101
 |some _,_=>.no 102
inductive Way where
 |ptr
 |dZ (len cap:Nat)
 |mp
def Way.at(w:Way)(b:Nat):I:=
 match w with
 |.ptr=>.pointer (U ⟨b,0,V⟩)
 |.dZ len cap=>.slice (U ⟨b,0,V⟩) len cap
 |.mp=>.map (U b)
def af(t:au)(l:List I):Ob:=.cells t (.var (Z l)) 0 (T.bW .e 0 l)
def eO(tb:aN)(t:au)(len:Nat)(parts:List (Nat×I)):R (Ob×Way):=
 match tb.aB t with
 |some (.slice elem)=>(fu tb elem).bind λ(n,zero)=>
  bif av (len*n) 16777216 then
   match wT (λ i=>U (i*n,n)) (n_ zero len) parts with
   |some cells=>.ok (af elem cells,.dZ len (2*len))
   |none=>.no 110
  else .no 111
 |_=>.no 112
def tK(tb:aN)(t:au)(len cap:I):R (Ob×Way):=
 match tb.aB t with
 |some (.slice elem)=>(jx len).bind λ l=>(jx cap).bind λ c=>(fu tb elem).bind λ(_,zero)=>
  match tb.ty.get elem with
  |some i=>bif av l c&&av c 1048576&&av i.bytes 1048576 then .ok (af elem (n_ zero c),.dZ l (2*c))else .no 113
  |none=>.no 114
 |_=>.no 115
def gx(b:UInt8):I:=.int .u8 (.ofNat b.toNat)
def y_(tb:aN)(src dst:au)(x:I):R (Ob×Way):=
 match tb.aB src,tb.aB dst,x with
 |some .string,U (.slice e),.string s=>
  match tb.aB e with
  |some (.int .u8)=>bif aO (Z s.data.toList) 4294967296 then
   .ok (.cells e .mark 0 (T.bW .e 0 (s.data.toList.map gx)),.dZ (Z s.data.toList) (cP (Z s.data.toList) 1))else .no 116
  |_=>.no 117
 |_,_,_=>.no 118
def uQ(tb:aN)(t:au)(reserve:Option I):R (Ob×Way):=
 match reserve with
 |none=>.ok (.map [] 0,.mp)
 |some v=>match tb.aB t,v with
  |some (.map _ _),.int _ _=>.ok (.map [] 0,.mp)
  |_,_=>.no 119
def bS(v:I):Bool:=
 match v with
 |.agg _|.tuple _=>ag
 |_=>ae
def oe(m fz:Nat):List I->Nat->T I->R (T I)
 | [],_,c=>.ok c
 |v::vs,i,c=>bif bS v&&av fz i then
  match c.get i with
  |some _=>oe m fz vs (qs i) (c.set i v)
  |none=>bif aO i m then oe m fz vs (qs i) (c.set i v)else .no 120
  else .no 121
def AM:Kd->Nat
 |.room n=>n
 |_=>0
def lj(A:Mem)(a:Addr)(vs:List I):R Mem:=
 match vs with
 | []=>.ok A
 |vs=>match a.spot,A.get a.block with
  |none,U (.cells t x fz c)=>(oe (AM x) fz vs a.off c).bind λ c'=>.ok (A.set a.block (.cells t x fz c'))
  |_,_=>.no 122
def cm(tb:aN)(A:Mem)(t:au)(x v:I):R Mem:=
 match x with
 |.pointer (U a)=>(bk tb t).bind λ n=>bif aL (Z v.cells.toList) n then lj A a v.cells.toList else .no 123
 |_=>.no 124
def gj(x:I):R Nat:=
 match x with
 |.slice _ n _=>.ok n
 |.string s=>.ok (Z s.data.toList)
 |_=>.no 125
def jJ(g:Nat->Option Ob)(size n:Nat)(x:I):R (List I):=
 match x with
 |.slice a _ _=>gh g size n a
 |.string s=>bif aL size 1 then .ok ((s.data.toList.take n).map gx)else .no 126
 |_=>.no 126
def kh:TypeDesc->Bool
 |.int _=>ae
 |_=>ag
def ig(tb:aN)(A:Mem)(elem:au)(base:Option Addr)(len cap size n:Nat)(new:List I):R (I×Mem):=
 bif av (len+n) (bV cap)then
  match base with
  |none=>.ok (.slice V 0 0,A)
  |some a=>match a.spot with
   |some _=>.no 128
   |none=>(lj A (g_ a (len*size)) new).bind λ A'=>.ok (.slice (U a) (len+n) cap,A')
 else
  match tb.ty.get elem with
  |none=>.no 129
  |some i=>
   bif av (len+n) 16777216&&av i.bytes 65536&&aO 0 i.bytes&&aO 0 size&&aO size 65536 then
    (gh A.get size len base).bind λ old=>
    let v:I:=.slice (U ⟨A.next,0,V⟩) (len+n) (cP (len+n) size)
    bif ed cap then .ok (v,A.alloc (.cells elem .row 0 (T.bW .e 0 (old++new))))
    else match base with
     |some a=>bif aL (hY cap) size&&new.all bS then
      match a.spot,A.get a.block with
      |none,U (.cells t x fz _)=>bif av fz (a.off+len*size)&&(aL t elem&&aO fz 9223372036854775808)then
       match x with
       |.var _=>.no 130
       |.room _=>.no 130
       |x=>.ok (v,(A.set a.block .dead).alloc (.cells elem x (fz-a.off) (T.bW .e 0 (old++new))))
       else .no 130
      |_,_=>.no 131
      else .no 132
     |none=>.no 133
   else .no 134
def HQ(tb:aN)(A:Mem)(elem:au)(base:Option Addr)(len cap:Nat)(x:I):R (I×Mem):=
 (fu tb elem).bind λ(size,zero)=>(jx x).bind λ n=>
 match tb.ty.get elem with
 |none=>.no 137
 |some i=>bif av n 16777216&&av i.bytes 65536 then ig tb A elem base len cap size n (n_ zero n)else .no 127
def dJ(tb:aN)(A:Mem)(st:au)(xt:au)(s x:I):R (I×Mem):=
 match tb.aB st,s,tb.aB xt with
 |some (.slice elem),.slice base len cap,U xd=>
  bif kh xd then HQ tb A elem base len cap x else
  (fu tb elem).bind λ(size,_)=>(gj x).bind λ n=>(jJ A.get size n x).bind λ new=>ig tb A elem base len cap size n new
 |_,_,_=>.no 135
def E7(tb:aN)(A:Mem)(dt:au)(d s:I):R (I×Mem):=
 match tb.aB dt,d with
 |some (.slice elem),.slice base dl _=>(bk tb elem).bind λ size=>(gj s).bind λ sl=>
  let n:=bif av sl dl then sl else dl
  (jJ A.get size n s).bind λ l=>
  match base with
  |none=>.ok (.int .i64 (.ofNat n),A)
  |some a=>(lj A a l).bind λ A'=>.ok (.int .i64 (.ofNat n),A')
 |_,_=>.no 136
def cQ:I:=.tuple ⟨[]⟩
def EZ(tb:aN)(A:Mem)(t:au)(x:I):R (I×Mem):=
 match tb.aB t,x with
 |some _,.map V=>.ok (cQ,A)
 |some _,.map (U r)=>match A.get r with
  |some (.map _ clock)=>.ok (cQ,A.set r (.map [] clock))
  |_=>.no 137
 |some _,.slice V _ _=>.ok (cQ,A)
 |some (.slice elem),.slice (U a) n _=>bif aL n 0 then .ok (cQ,A)else
  (fu tb elem).bind λ(_,zero)=>(lj A a (n_ zero n)).bind λ A'=>.ok (cQ,A')
 |_,_=>.no 138
def zf(tb:aN)(A:Mem)(pt:au)(x n:I):R (I×Mem):=
 (jx n).bind λ n=>
 match x,tb.aB pt with
 |.pointer (U a),U (.pointer e)=>
  match a.spot,A.get a.block,tb.aB e with
  |none,U (.cells t k fz c),U (.int .u8)=>(bk tb e).bind λ size=>
   bif aL t e&&aL size 1&&aO 0 n&&av n 16777216&&(aO fz 9223372036854775808&&aO (a.off+n) 9223372036854775808)then
    match c.hZ n a.off with
    |some vs=>match k with
     |.mark=>.no 155
     |_=>(bytesOf vs).bind λ l=>.ok (ai l,A.set a.block (.cells t .row (bif av fz (a.off+n)then a.off+n else fz) c))
    |none=>.no 151
   else .no 152
  |_,_,_=>.no 153
 |.pointer V,_=>bif aL n 0 then .ok (ai [],A)else .no 154
 |_,_=>.no 154
def Gw(es:List MapEntry)(i:Nat)(k v:I):List MapEntry:=
 match es,i with
 | [],_=>[]
 |e::es,0=>{e with key:=k,val:=v}::es
 |e::es,i+1=>e::Gw es i k v
def E_(es:List MapEntry)(i:Nat):List MapEntry:=
 match es,i with
 | [],_=>[]
 |_::es,0=>es
 |e::es,i+1=>e::E_ es i
def pA(tb:aN)(A:Mem)(t:au)(m k v:I):R Mem:=
 match tb.aB t,m with
 |some (.map kt _),.map (U r)=>
  bif h_ tb kt k then
   match A.get r with
   |some (.map es clock)=>match findF k es 0 with
    |some (U (i,_))=>.ok (A.set r (.map (Gw es i k v) clock))
    |some V=>.ok (A.set r (.map (es++[{key:=k,val:=v,born:=clock}]) (clock+1)))
    |none=>.no 139
   |_=>.no 140
  else .no 141
 |_,_=>.no 142
def E8(tb:aN)(A:Mem)(t:au)(m k:I):R (I×Mem):=
 match tb.aB t,m with
 |some (.map kt _),.map V=>bif h_ tb kt k then .ok (cQ,A)else .no 143
 |some (.map kt _),.map (U r)=>
  bif h_ tb kt k then
   match A.get r with
   |some (.map es clock)=>match findF k es 0 with
    |some (U (i,_))=>.ok (cQ,A.set r (.map (E_ es i) clock))
    |some V=>.ok (cQ,A.set r (.map es clock))
    |none=>.no 144
   |_=>.no 145
  else .no 146
 |_,_=>.no 147
def AL(tb:aN)(A:Mem)(t:au)(x:I):R (I×Mem):=
 match tb.aB t,x with
 |some .string,.string s=>.ok (.pointer (U ⟨A.next,0,V⟩),A.alloc (.sit s 0))
 |some (.map _ _),.map (U r)=>match A.get r with
  |some (.map _ c)=>.ok (.pointer (U ⟨A.next,0,V⟩),A.alloc (.mit r c V))
  |_=>.no 148
 |_,_=>.no 148
def F1(A:Mem)(x:I)(isString:Bool):R (I×Mem):=
 match x,isString with
 |.pointer (U ⟨r,0,V⟩),ae=>match A.get r with
  |some (.sit s pos)=>
   bif aO pos s.size then
    let cw:=Utf8.decode s pos
    .ok (.tuple ⟨[.bool ae,goInt pos,.int .i32 cw.1]⟩,A.set r (.sit s (pos+cw.2)))
   else .ok (.tuple ⟨[.bool ag]⟩,A)
  |_=>.no 149
 |.pointer (U ⟨r,0,V⟩),ag=>match A.get r with
  |some (.mit m c b)=>match A.get m with
   |some (.map [e] k)=>bif aL k c&&aO e.born c then match b with
    |none=>.ok (.tuple ⟨[.bool ae,e.key,e.val]⟩,A.set r (.mit m c (U e.born)))
    |some x=>bif aL x e.born then .ok (.tuple ⟨[.bool ag]⟩,A)else .no 149
    else .no 149
   |_=>.no 149
  |_=>.no 149
 |_,_=>.no 150
def Fb(A:Mem)(x:I):R (I×Mem):=
 match x with
 |.pointer (U ⟨r,0,V⟩)=>match A.get r with
  |some (.mit m c (U x))=>match A.get m with
   |some (.map [e] k)=>bif aL k c&&aL x e.born then .ok (.tuple ⟨[e.key,e.val]⟩,A)else .no 149
   |_=>.no 149
  |_=>.no 149
 |_=>.no 150
inductive Pl where
 |val (v:I)
 |var (a:Addr)
def Pl.get(tb:aN)(g:Nat->Option Ob)(t:au)(x:Pl):R I:=
 match x with
 |.val v=>.ok v
 |.var a=>aj tb g t (.pointer (U a))
def wU(tb:aN)(g:Nat->Option Ob):List FieldStep->au->Pl->R (au×Pl)
 | [],t,x=>.ok (t,x)
 |s::rest,t,x=>
  match tb.aB s.struct with
  |some (.struct fs)=>match fs.toList[s.index]? with
   |some f=>(bk tb f.type).bind λ n=>
    match s.deref with
    |true=>(x.get tb g t).bind λ v=>match v with
     |.pointer (U a)=>match a.spot with
      |none=>bif aL n 0 then .no 160 else wU tb g rest f.type (.var (g_ a f.offset))
      |some _=>.no 161
     |_=>.no 162
    |false=>match x with
     |.var a=>match a.spot with
      |none=>bif aL n 0 then .no 163 else wU tb g rest f.type (.var (g_ a f.offset))
      |some _=>.no 164
     |.val (.agg cs)=>(nZ tb f.type cs.toList f.offset).bind λ v=>wU tb g rest f.type (.val v)
     |.val _=>.no 165
   |none=>.no 166
  |_=>.no 167
def Gi(tb:aN)(g:Nat->Option Ob)(xt:au)(x:Pl)(ptr:Bool):R I:=
 match tb.aB xt,ptr,x with
 |some (.pointer _),ae,x=>x.get tb g xt
 |some (.pointer elem),ag,x=>(x.get tb g xt).bind λ v=>match v with
  |.pointer (U a)=>aj tb g elem (.pointer (U a))
  |_=>.no 168
 |some _,ae,.var a=>.ok (.pointer (U a))
 |some _,ae,.val _=>.no 169
 |some _,ag,x=>x.get tb g xt
 |none,_,_=>.no 170
def F0(tb:aN)(g:Nat->Option Ob):Nat->au->I->String->R (FuncId×I)
 |0,_,_,_=>.no 171
 |d+1,t,v,name=>
  match tb.ty.get t with
  |none=>.no 172
  |some i=>match i.methods.toList.find? (λ m=>m.name==name)with
   |none=>.no 173
   |some m=>(wU tb g m.path.toList t (.val v)).bind λ(xt,x)=>
    match m.func with
    |none=>(x.get tb g xt).bind λ w=>match w with
     |.iface t' v'=>F0 tb g d t' v' name
     |_=>.no 174
    |some (f,ptr)=>(Gi tb g xt x ptr).bind λ r=>.ok (f,r)
inductive Cl where
 |fn (f:FuncId) (args:List I)
 |round (l:Nat) (args:List I)
def AA(tb:aN)(g:Nat->Option Ob)(recv:I)(name:String)(args:List I):R Cl:=
 match recv with
 |.iface t v=>(F0 tb g 100 t v name).bind λ(f,r)=>.ok (.fn f (r::args))
 |_=>.no 180
def tw(tb:aN)(g:Nat->Option Ob)(v:I)(args:List I):R Cl:=
 match v with
 |.func (.func f) first captured=>.ok (.fn f (first.toList++args++captured.toList))
 |.func (.yield l) _ _=>.ok (.round l args)
 |.func (.method name) first _=>match first.toList++args with
  |recv::args=>AA tb g recv name args
  | []=>.no 181
 |.func (.methodOf t name) first _=>match first.toList++args with
  |recv::args=>match tb.aB t with
   |some (.interface _)=>AA tb g recv name args
   |some _=>AA tb g (.iface t recv) name args
   |none=>.no 182
  | []=>.no 183
 |.func (.via t path f ptr) first _=>match first.toList++args with
  |x::args=>(wU tb g path.toList t (.val x)).bind λ(xt,x)=>(Gi tb g xt x ptr).bind λ r=>.ok (.fn f (r::args))
  | []=>.no 184
 |_=>.no 185
def wR{β:Type}(n:Nat)(k:Nat->β):β:=Nat.rec (motive:=λ _=>β) (k 0) (λ m _=>k (qs m)) n
def Jq{β:Type}(n:Int)(k:Int->β)(fn:Nat->(Nat->β)->β):β:=
 match n with
 |.ofNat m=>fn m λ m=>k (.ofNat m)
 |.negSucc m=>fn m λ m=>k (.negSucc m)
def Fz{β:Type}(a:Addr)(k:Addr->β):β:=
 match a with
 |⟨b,o,V⟩=>wR b λ b=>wR o λ o=>k ⟨b,o,V⟩
 |a=>k a
def Ox{α β:Type}(l:List α)(k:List α->β):β:=
 List.rec (motive:=λ _=>(List α->β)->β) (λ k=>k []) (λ x _ ih k=>ih λ l=>k (x::l)) l k
def Jr{β:Type}(v:I)(k:I->β):β:=
 match v with
 |.int kd n=>Jq n (λ n=>k (.int kd n)) wR
 |.bool ae=>k (.bool ae)
 |.bool ag=>k (.bool ag)
 |.pointer (U a)=>Fz a λ a=>k (.pointer (U a))
 |.slice (U a) len cap=>Fz a λ a=>wR len λ len=>wR cap λ cap=>k (.slice (U a) len cap)
 |.agg ⟨l⟩=>Ox l λ l=>k (.agg ⟨l⟩)
 |v=>k v
def FA{β:Type}(n:Nat)(k:Nat->β):wR n k=k n:=by cases n<;>rfl
def Za{α β:Type}(l:List α):∀(k:List α->β),Ox l k=k l:=by
 induction l with
 |nil=>exact λ _=>rfl
 |cons x l ih=>exact λ k=>ih _
def Y'{β:Type}(n:Int)(k:Int->β):Jq n k wR=k n:=by cases n<;>simp[Jq,FA]
def Y_{β:Type}(a:Addr)(k:Addr->β):Fz a k=k a:=by
 obtain⟨b,o,s⟩:=a;cases s<;>simp[Fz,FA]
def Js{β:Type}(v:I)(k:I->β):Jr v k=k v:=by
 unfold Jr;split<;>simp[Y',Y_,FA,Za]
structure St where
 t:T I
 n:Nat
 d:List Nat
 m:Mem
 ro:Option Nat
inductive Ex where
 |nrm
 |exit (id:Nat)
 |ret
 |ef (v:I)
def ev(t:T I)(x:bM):R I:=
 match x with
 |.tmp i=>match t.get i with
  |some v=>.ok v
  |none=>.no 200
 |.const v=>bif rX 3 v then .ok v else .no 199
 |.func f=>.ok (.func (.func f) ⟨[]⟩ ⟨[]⟩)
 |.global _=>.no 201
def fk(t:T I):List bM->R (List I)
 | []=>.ok []
 |x::xs=>(ev t x).bind λ v=>(fk t xs).bind λ vs=>.ok (v::vs)
def mI(t:T I)(x:Option bM):R (Option I):=
 match x with
 |none=>.ok V
 |some x=>(ev t x).bind λ v=>.ok (U v)
def oI(t:T I):List (Nat×bM)->R (List (Nat×I))
 | []=>.ok []
 |(i,x)::xs=>(ev t x).bind λ v=>(oI t xs).bind λ vs=>.ok ((i,v)::vs)
inductive LS where
 |P|Rd|Al|L
 deriving DecidableEq
def th:Option TypeDesc->Bool
 |some .bool|some (.int _)|some .string=>ae
 |_=>ag
def cls(tb:aN)(o:Op):LS:=
 match o with
 |.indexAddr _ x _=>match x with
  |.global _=>.Rd
  |_=>.P
 |.move _|.assign _|.pick ..|.build ..|.unOp ..|.makeInterface ..|.makeFunc ..|.fieldAddr ..|.field ..|.index ..|.extract ..
 |.slice ..|.typeAssert ..|.nilCheck _=>.P
 |.binOp op t _ _ _=>match op with
  |.eql|.neq=>bif th (tb.aB t)then .P else .Rd
  |_=>.P
 |.convert s d _=>match tb.aB s,tb.aB d with
  |some .string,U (.slice _)=>.Al
  |some (.slice _),U .string=>.Rd
  |some (.pointer _),_=>.Rd
  |some .unsafePointer,_=>.Rd
  |_,_=>.P
 |.load ..|.lookup ..=>.Rd
 |.alloc _|.box ..|.buildSlice ..|.makeMap ..|.makeSlice ..=>.Al
 |.call c=>match c.callee with
  |.builtin b=>match b with
   |.cap|.min|.max=>.P
   |.unsafeSliceData=>.P
   |.len=>match c.argTypes.toList with
    |t::_=>match tb.aB t with
     |some (.map _ _)=>.Rd
     |_=>.P
    | []=>.L
   |_=>.L
  |_=>.L
 |_=>.L
def C0(tb:aN)(t:au)(x:I):R I:=
 match tb.aB t,x with
 |some .string,.string s=>.ok (.int .i64 (.ofNat (Z s.data.toList)))
 |some (.array n _),_=>.ok (.int .i64 (.ofNat n))
 |some (.slice _),.slice _ n _=>.ok (.int .i64 (.ofNat n))
 |some (.slice _),.complex .f32 0 0=>.ok (.int .i64 (.ofNat 0))
 |_,_=>.no 202
def I0(tb:aN)(t:au)(x:I):R I:=
 match tb.aB t,x with
 |some (.array n _),_=>.ok (.int .i64 (.ofNat n))
 |some (.slice _),.slice _ _ c=>bif ed c then .ok (.int .i64 (.ofNat (bV c)))else .ok (Tk (bV c))
 |_,_=>.no 204
def c_(tb:aN)(b:Builtin)(ts:List au)(args:List I):R I:=
 match b,ts,args with
 |.len,t::_,x::_=>C0 tb t x
 |.cap,t::_,x::_=>I0 tb t x
 |.min,_,x::l=>Aj J_ x l
 |.max,_,x::l=>Aj J8 x l
 |.unsafeSliceData,_,[.slice (U a) _ c]=>bif aO 0 (bV c)then .ok (.pointer (U a))else .no 205
 |.unsafeSliceData,_,[.slice V _ _]=>.ok (.pointer V)
 |_,_,_=>.no 206
def ib(tb:aN)(t:T I)(o:Op):R I:=
 match o with
 |.move x=>ev t x
 |.assign x=>ev t x
 |.pick c a b=>(ev t c).bind λ c=>match c with
  |.bool ae=>ev t a
  |.bool ag=>ev t b
  |_=>.no 207
 |.build ty ps=>(oI t ps.toList).bind λ ps=>eu tb ty ps
 |.unOp op _ x=>(ev t x).bind λ x=>Be op x
 |.makeInterface ty x=>(ev t x).bind λ x=>match tb.aB ty with
  |some (.interface _)=>.no 208
  |some _=>.ok (.iface ty x)
  |none=>.no 209
 |.makeFunc fn a b=>(fk t a.toList).bind λ a=>(fk t b.toList).bind λ b=>match fn with
  |.yield _=>.no 210
  |fn=>.ok (.func fn ⟨a⟩ ⟨b⟩)
 |.fieldAddr ty x i=>(ev t x).bind λ x=>bK tb ty x i
 |.field ty x i=>(ev t x).bind λ x=>Ag tb ty x i
 |.indexAddr ty x i=>(ev t x).bind λ x=>(ev t i).bind λ i=>eE tb ty x i
 |.index ty x i=>(ev t x).bind λ x=>(ev t i).bind λ i=>uL tb ty x i
 |.extract x i=>(ev t x).bind λ x=>match x with
  |.tuple vs=>match vs.toList[i]? with
   |some v=>.ok v
   |none=>.no 211
  |_=>.no 212
 |.slice ty x lo hi mx=>(ev t x).bind λ x=>(mI t lo).bind λ lo=>(mI t hi).bind λ hi=>(mI t mx).bind λ mx=>iL tb ty x lo hi mx
 |.typeAssert x _ ty ok=>(ev t x).bind λ x=>Ce tb x ty ok
 |.nilCheck x=>(ev t x).bind λ x=>match x with
  |.pointer (U a)=>.ok (.pointer (U a))
  |.iface a b=>.ok (.iface a b)
  |.map a=>.ok (.map a)
  |.func (.func f) a b=>.ok (.func (.func f) a b)
  |.func (.yield f) a b=>.ok (.func (.yield f) a b)
  |_=>.no 213
 |.binOp op ty x y _=>(ev t x).bind λ x=>(ev t y).bind λ y=>ij op (tb.aB ty) x y
 |.convert s d x=>(ev t x).bind λ x=>j' tb s d x
 |.call c=>match c.callee with
  |.builtin b=>(fk t c.args.toList).bind λ args=>c_ tb b c.argTypes.toList args
  |_=>.no 214
 |_=>.no 215
def gO(tb:aN)(g:Nat->Option Ob)(s d:au)(x:I):R I:=
 match tb.aB s,tb.aB d,x with
 |some (.slice e),U .string,x=>match tb.aB e with
  |some (.int .u8)=>zb g x
  |_=>.no 216
 |some (.pointer ty),U .unsafePointer,.pointer (U a)=>match a.spot,g a.block with
  |none,U (.cells _ (.var n) _ _)=>(bk tb ty).bind λ sz=>bif aO a.off n&&aO 0 sz then .ok (.pointer (U a))else .no 217
  |_,_=>.no 218
 |some .unsafePointer,U (.pointer ty),.pointer (U a)=>match a.spot,g a.block with
  |none,U (.cells e (.var n) _ _)=>(bk tb ty).bind λ _=>bif liesAt tb.P tb.P.depth e (n/tb.P.cellsOf e) a.off ty 1 then .ok (.pointer (U a))else .no 219
  |_,_=>.no 220
 |_,_,_=>.no 221
def eR(tb:aN)(t:T I)(g:Nat->Option Ob)(o:Op):R I:=
 match o with
 |.load ty x=>match x with
  |.global k=>(FJ g k).bind λ x=>aj tb g ty x
  |x=>(ev t x).bind λ x=>aj tb g ty x
 |.indexAddr ty x i=>match x with
  |.global k=>(FJ g k).bind λ x=>(ev t i).bind λ i=>eE tb ty x i
  |_=>.no 224
 |.lookup ty x k ok=>(ev t x).bind λ x=>(ev t k).bind λ k=>qf tb g ty x k ok
 |.binOp op ty x y _=>(ev t x).bind λ a=>(ev t y).bind λ b=>fU tb g op ty x y a b
 |.convert s d x=>(ev t x).bind λ x=>gO tb g s d x
 |.call c=>match c.callee with
  |.builtin .len=>(fk t c.args.toList).bind λ args=>match args with
   |x::_=>(wJ g x).bind λ es=>.ok (.int .i64 (.ofNat (Z es)))
   | []=>.no 222
  |_=>.no 223
 |_=>.no 224
def lS(tb:aN)(t:T I)(o:Op):R (Ob×Way):=
 match o with
 |.alloc e=>(dj tb e).bind λ z=>.ok (af e z.cells.toList,.ptr)
 |.box e x=>(ev t x).bind λ v=>.ok (af e v.cells.toList,.ptr)
 |.buildSlice ty len ps=>(oI t ps.toList).bind λ ps=>eO tb ty len ps
 |.makeMap ty r=>(mI t r).bind λ r=>uQ tb ty r
 |.makeSlice ty l c=>(ev t l).bind λ l=>(ev t c).bind λ c=>tK tb ty l c
 |.convert s d x=>(ev t x).bind λ x=>y_ tb s d x
 |_=>.no 225
inductive nh where
 |val (v:I) (m:Mem)
 |ef (v:I) (m:Mem)
def wm(tb:aN)(A:Mem)(b:Builtin)(ts:List au)(args:List I):R (I×Mem):=
 match b,ts,args with
 |.append,st::xt::_,s::x::_=>dJ tb A st xt s x
 |.copy,dt::_,d::s::_=>E7 tb A dt d s
 |.clear,ty::_,x::_=>EZ tb A ty x
 |.delete,ty::_,m::k::_=>E8 tb A ty m k
 |.unsafeString,ty::_,[x,n]=>zf tb A ty x n
 |_,_,_=>.no 226
def oM(tb:aN)(t:T I)(A:Mem)(o:Op):R (I×Mem):=
 match o with
 |.store ty x v=>(ev t x).bind λ x=>(ev t v).bind λ v=>(cm tb A ty x v).bind λ A'=>.ok (cQ,A')
 |.mapUpdate ty m k v=>(ev t m).bind λ m=>(ev t k).bind λ k=>(ev t v).bind λ v=>(pA tb A ty m k v).bind λ A'=>.ok (cQ,A')
 |.insert ty m k v=>(ev t m).bind λ m=>(ev t k).bind λ k=>(ev t v).bind λ v=>(pA tb A ty m k v).bind λ A'=>.ok (cQ,A')
 |.range ty x=>(ev t x).bind λ x=>AL tb A ty x
 |.next x isS=>(ev t x).bind λ x=>F1 A x isS
 |.entry x=>(ev t x).bind λ x=>Fb A x
 |.call c=>match c.callee with
  |.builtin b=>(fk t c.args.toList).bind λ args=>wm tb A b c.argTypes.toList args
  |_=>.no 227
 |_=>.no 228
def Mj(A:Mem)(a b:Addr):R Unit:=
 match a.spot,b.spot,A.get a.block,A.get b.block with
 |none,V,U (.cells _ (.var _) _ _),U (.cells _ _ _ c)=>match c.get 0 with
  |some _=>bif aL a.block b.block then .no 230 else .ok ()
  |none=>.no 230
 |_,_,_,_=>.no 231
def yD(c:Nat):List UInt8->Nat->Nat
 | [],n=>n
 |x::l,n=>bif aL x.toNat c then yD c l (n+1)else yD c l n
def Db(c:Nat):List UInt8->Nat->Int
 | [],_=>.negSucc 0
 |x::l,n=>bif aL x.toNat c then .ofNat n else Db c l (n+1)
def Ji(tb:aN)(k:Nat)(fn:Func)(args:List I)(A:Mem):R (I×Mem):=
 match k,args with
 |1,[x]=>.ok (x,A)
 |2,[.slice (U a) _ _,.slice (U b) _ _]=>match fn.params.toList,fn.resultTypes.toList with
  | [p,q],[_]=>match tb.aB p with
   |some (.slice e)=>(bk tb e).bind λ _=>bif aL p q then(Mj A a b).bind λ _=>.ok (.bool ag,A)else .no 231
   |_=>.no 232
  |_,_=>.no 233
 |3,[.int .i64 (.ofNat n)]=>match fn.resultTypes.toList with
  |p::_=>match tb.aB p with
   |some (.slice e)=>bif av n 1048576&&(match tb.aB e with|some (.int .u8)=>ae|_=>ag)then
    .ok (.slice (U ⟨A.next,0,V⟩) n (cP n 1),A.alloc (.cells e .row 0 (T.bW .e 0 (fQ n (.chan (U 0))))))else .no 234
   |_=>.no 235
  | []=>.no 236
 |4,[.iface t (.map (U r))]=>match A.get r with
  |some (.map es clock)=>.ok (.iface t (.map (U A.next)),A.alloc (.map es clock))
  |_=>.no 237
 |5,[.int .u64 (.ofNat x),.int .u64 (.ofNat y),.int .u64 (.ofNat c)]=>bif av c 1 then
  .ok (.tuple ⟨[.int .u64 (.ofNat ((x+y+c) % 18446744073709551616)),.int .u64 (.ofNat ((x+y+c)/18446744073709551616))]⟩,A)else .no 260
 |6,[.string s,.int .u8 (.ofNat c)]=>bif aO c 256 then .ok (.int .i64 (.ofNat (yD c s.data.toList 0)),A)else .no 261
 |7,[.string s,.int .u8 (.ofNat c)]=>bif aO c 256 then .ok (.int .i64 (Db c s.data.toList 0),A)else .no 262
 |_,_=>.no 238
def eF(tb:aN)(t:T I)(g:Nat->Option Ob):List ResultVar->R (List I)
 | []=>.ok []
 |.tmp i::rs=>(ev t (.tmp i)).bind λ v=>(eF tb t g rs).bind λ vs=>.ok (v::vs)
 |.cell i ty::rs=>(ev t (.tmp i)).bind λ a=>(aj tb g ty a).bind λ v=>(eF tb t g rs).bind λ vs=>.ok (v::vs)
def oneOf(vs:List I):I:=
 match vs with
 | [v]=>v
 |vs=>.tuple ⟨vs⟩
def ir:List Nat->Mem->R Mem
 | [],A=>.ok A
 |b::bs,A=>match A.get b with
  |some .defd=>ir bs (A.set b .dead)
  |_=>.no 240
def setArgs(n:Nat):List Tmp->List I->T I->R (T I)
 | [],[],t=>.ok t
 |p::ps,v::vs,t=>bif aO p n then setArgs n ps vs (t.set p v)else .no 241
 |_,_,_=>.no 242
section
variable (tb:aN)(ih:aH->St->R (Ex×St))
def uV(l:Nat)(args:List I)(A:Mem):R nh:=
 match A.get l with
 |some (.loop r)=>
  (setArgs r.n r.params args r.tmps).bind λ t=>
  (ih r.assign {t,n:=r.n,d:=[],m:=A,ro:=U l}).bind λ(e,s1)=>
  match e,s1.m.get l with
  |.nrm,U (.loop r1)=>
   match r1.state with
   |.ready=>
    (ih r.body {s1 with m:=s1.m.set l (.loop {r1 with state:=.busy})}).bind λ(e,s2)=>
    match e,s2.d,s2.m.get l with
    |.nrm,[],U (.loop r2)=>.ok (.val (.bool ae) (s2.m.set l (.loop {r2 with state:=.ready,pending:=V})))
    |.exit id,[],U (.loop r2)=>.ok (.val (.bool ag) (s2.m.set l (.loop {r2 with state:=.done,pending:=U (.exit id)})))
    |.ret,[],U (.loop r2)=>.ok (.val (.bool ag) (s2.m.set l (.loop {r2 with state:=.done,pending:=U .ret})))
    |_,_,_=>.no 243
   |_=>.no 244
  |_,_=>.no 245
 |_=>.no 246
def pT(fn:Func)(c:aH)(args:List I)(A:Mem):R nh:=
 bif av (Z args) fn.ntmps then
  (ih c {t:=T.bW .e 0 args,n:=fn.ntmps,d:=[],m:=A,ro:=V}).bind λ(e,s)=>
  match e with
  |.ef v=>match s.d with
   | []=>.ok (.ef v s.m)
   |_=>.no 239
  |.exit _=>.no 248
  |_=>(ir s.d s.m).bind λ A'=>(eF tb s.t A'.get fn.results.toList).bind λ vs=>.ok (.val (oneOf vs) A')
 else .no 249
def cE(c:Cl)(A:Mem):R nh:=
 match c with
 |.round l args=>uV ih l args A
 |.fn f args=>match tb.fn.get f with
  |none=>.no 247
  |some fn=>bif fn.name== "runtime.NumGoroutine" then .no 256 else match fn.body with
   |none=>match tb.ex.get f with
    |some k=>(Ji tb k fn args A).bind λ(v,A')=>.ok (.val v A')
    |none=>.no (1000+f)
   |some c=>match tb.hk.get f with
    |some h=>(h args A).bind λ(v,A')=>.ok (.val v A')
    |none=>pT tb ih fn c args A
def b7(s:St)(dst:Option Tmp)(v:I)(k:St->R (Ex×St)):R (Ex×St):=
 match dst with
 |none=>k s
 |some d=>bif aO d s.n then Jr v λ v=>k {s with t:=s.t.set d v}else .no 250
def rW(t:T I)(g:Nat->Option Ob)(c:Call):R Cl:=
 (fk t c.args.toList).bind λ args=>
 match c.callee with
 |.value f=>(ev t f).bind λ f=>tw tb g f args
 |.invoke r name=>(ev t r).bind λ r=>AA tb g r name args
 |.builtin _=>.no 251
def qd(o:Op):Option Call:=
 match o with
 |.call c=>match c.callee with
  |.builtin _=>V
  |_=>U c
 |_=>V
def bT(o:Oper)(s:St)(k:St->R (Ex×St)):R (Ex×St):=
 match qd o.op with
 |some c=>(rW tb s.t s.m.get c).bind λ cl=>(cE tb ih cl s.m).bind λ r=>match r with
  |.val v A=>b7 {s with m:=A} o.dst v k
  |.ef v A=>.ok (.ef v,{s with m:=A})
 |none=>match cls tb o.op with
  |.P=>(ib tb s.t o.op).bind λ v=>b7 s o.dst v k
  |.Rd=>(eR tb s.t s.m.get o.op).bind λ v=>b7 s o.dst v k
  |.Al=>(lS tb s.t o.op).bind λ(ob,way)=>b7 {s with m:=s.m.alloc ob} o.dst (way.at s.m.next) k
  |.L=>match o.op with
   |.panic x=>(ev s.t x).bind λ x=>match x with
    |.iface t v=>.ok (.ef (.iface t v),s)
    |_=>.no 252
   |_=>(oM tb s.t s.m o.op).bind λ(v,A)=>b7 {s with m:=A} o.dst v k
def iM(ops:List Oper)(o:Oper)(t:T I):R Bool:=
 match o.guard with
 |none=>.ok ae
 |some (j,want)=>match ops[j]? with
  |some oj=>match oj.dst with
   |some d=>match t.get d with
    |some (.bool b)=>.ok (bif b then want else !want)
    |some (.tuple _)=>.ok ag
    |some _=>.no 257
    |none=>.no 253
   |none=>.no 254
  |none=>.no 255
def ja(ops:List Oper)(l:List Oper):St->R (Ex×St):=
 List.rec (motive:=λ _=>St->R (Ex×St)) (λ s=>.ok (.nrm,s))
  (λ o _ next s=>(iM ops o s.t).bind λ w=>bif w then bT tb ih o s next else b7 s o.dst cQ next) l
end
def z_(acc:List Nat):List Edge->R Nat
 | []=>.ok 0
 |e::es=>(z_ acc es).bind λ m=>
  bif Region.binds .any e then
   match acc[e.on]? with
   |some a=>.ok (Nat.lor (Nat.lor (Nat.shiftLeft 1 e.on) a) m)
   |none=>.no 300
  else .ok m
def RR:bM->List Tmp
 |.tmp t=>[t]
 |_=>[]
def uU(ops:List Oper)(o:Oper):List Tmp:=
 (o.op.operands.toList.flatMap RR)++(match o.guard with
  |some (j,_)=>match ops[j]? with
   |some oj=>oj.dst.toList
   |none=>[]
  |none=>[])
def r9(a b:List Nat):Bool:=a.any λ x=>b.any λ y=>aL x y
structure ng where
 m:Nat
 c:LS
 w:List Tmp
 r:List Tmp
def CV(tb:aN)(ops:List Oper):List Oper->List Nat->R (List ng)
 | [],_=>.ok []
 |o::os,acc=>(z_ acc o.after.toList).bind λ m=>wR m λ m=>(CV tb ops os (acc++[m])).bind λ l=>
  .ok ({m,c:=cls tb o.op,w:=o.dst.toList,r:=uU ops o}::l)
def Kv(i:Nat)(a:ng)(j:Nat)(b:ng):R (List (Nat×Nat)):=
 bif Nat.testBit b.m i then .ok []
 else bif r9 a.w b.w||r9 a.w b.r||r9 a.r b.w then .no 301
 else match a.c,b.c with
  |.L,.L=>.no 302
  |.Rd,.L=>.ok [(i,j)]
  |.L,.Rd=>.ok [(j,i)]
  |.Al,.L=>.ok [(i,j)]
  |_,_=>.ok []
def G0(j:Nat)(b:ng):List ng->Nat->R (List (Nat×Nat))
 | [],_=>.ok []
 |a::l,i=>(Kv i a j b).bind λ p=>(G0 j b l (i+1)).bind λ q=>.ok (p++q)
def Gc(all:List ng):List ng->Nat->R (List (Nat×Nat))
 | [],_=>.ok []
 |b::l,j=>(G0 j b (all.take j) 0).bind λ p=>(Gc all l (j+1)).bind λ q=>.ok (p++q)
def uF(tb:aN)(ops:List Oper):R (List (Nat×Nat)):=
 (CV tb ops ops []).bind λ l=>Gc l l 0
def tO(a b:Option Nat):Bool:=
 match a,b with
 |none,V=>ae
 |some a,U b=>aL a b
 |_,_=>ag
def xh(a b:Addr):Bool:=aL a.block b.block&&aL a.off b.off&&tO a.spot b.spot
def Dp(a b:Fn):Bool:=
 match a,b with
 |.func f,.func g=>aL f g
 |.yield f,.yield g=>aL f g
 |_,_=>ag
def dD:Nat->I->I->Bool
 |0,_,_=>ag
 |d+1,a,b=>
  let all:List I->List I->Bool:=λ l m=>aL (Z l) (Z m)&&(l.zip m).all λ(x,y)=>dD d x y
  match a,b with
  |.bool ae,.bool ae=>ae
  |.bool ag,.bool ag=>ae
  |.int k x,.int k' y=>jv k k'&&kV x y
  |.string x,.string y=>oz x.data.toList y.data.toList
  |.pointer V,.pointer V=>ae
  |.pointer (U x),.pointer (U y)=>xh x y
  |.slice V l c,.slice V l' c'=>aL l l'&&aL c c'
  |.slice (U x) l c,.slice (U y) l' c'=>xh x y&&aL l l'&&aL c c'
  |.map x,.map y=>tO x y
  |.chan x,.chan y=>tO x y
  |.nilFunc,.nilFunc=>ae
  |.nilIface,.nilIface=>ae
  |.iface t x,.iface u y=>aL t u&&dD d x y
  |.func f x y,.func g x' y'=>Dp f g&&all x.toList x'.toList&&all y.toList y'.toList
  |.agg x,.agg y=>all x.toList y.toList
  |.tuple x,.tuple y=>all x.toList y.toList
  |.complex .f32 0 0,.complex .f32 0 0=>ae
  |_,_=>ag
def eK(r l:Nat)(fl:List (Nat×Nat)):Bool:=fl.any λ p=>aL p.1 r&&aL p.2 l
structure Rec where
 i:Nat
 t:T I
 o:Op
 v:I
def jy(tb:aN)(g:Nat->Option Ob)(x:Rec):Bool:=
 match eR tb x.t g x.o with
 |.ok v=>dD 100 v x.v
 |.no _=>ag
section
variable (tb:aN)(ih:aH->St->R (Ex×St))
def rL(b:Nat)(o:Option Ob)(l:List (Nat×Mem)):List (Nat×Mem):=
 match o with
 |some o=>l.map λ m=>(m.1,m.2.set b o)
 |none=>l
def iq:List Nat->Mem->Mem
 | [],A=>A
 |b::bs,A=>iq bs (A.set b .dead)
def ji(g:Nat->Option Ob):List Nat->Mem->R Mem
 | [],A=>.ok A
 |b::bs,A=>match g b with
  |some o=>ji g bs (A.set b o)
  |none=>.no 313
def dY(ops:List Oper)(fl:List (Nat×Nat))(l:List Oper):(i:Nat)->(mems:List (Nat×Mem))->(recs:List Rec)->(mks:List (Nat×Nat))->St->R (Ex×St):=
 List.rec (motive:=λ _=>Nat->List (Nat×Mem)->List Rec->List (Nat×Nat)->St->R (Ex×St)) (λ _ _ _ _ s=>.ok (.nrm,s))
  (λ o _ next i mems recs mks s=>(iM ops o s.t).bind λ w=>
   bif w then
    match cls tb o.op with
    |.L=>bT tb ih o {s with m:=iq ((mks.filter λ x=>eK x.1 i fl).map (·.2)) s.m} λ s'=>
     (ji s.m.get ((mks.filter λ x=>eK x.1 i fl).map (·.2)) s'.m).bind λ A=>
     bif (recs.filter λ x=>eK x.i i fl).all (jy tb A.get)then next (i+1) ((i,s.m)::mems) recs mks {s' with m:=A}else .no 310
    |.Rd=>(eR tb s.t s.m.get o.op).bind λ v=>
     bif (mems.filter λ m=>eK i m.1 fl).all (λ m=>jy tb m.2.get ⟨i,s.t,o.op,v⟩)then b7 s o.dst v (next (i+1) mems (⟨i,s.t,o.op,v⟩::recs) mks)else .no 311
    |.Al=>bT tb ih o s λ s'=>next (i+1) (rL s.m.next (s'.m.get s.m.next) mems) recs ((i,s.m.next)::mks) s'
    |.P=>bT tb ih o s (next (i+1) mems recs mks)
   else b7 s o.dst cQ (next (i+1) mems recs mks)) l
def regionF(ops:List Oper)(draw:Bool)(s:St):R (Ex×St):=
 bif draw then
  (uF tb ops).bind λ fl=>(dY tb ih ops fl ops 0 [] [] [] s).bind λ(e,s)=>
  match e with
  |.nrm=>.ok (.nrm,s)
  |_=>.no 312
 else ja tb ih ops ops s
def xc(f:bM)(params:List Tmp)(assign body:aH)(fnId:FuncId)(s:St):R (Ex×St):=
 (ev s.t f).bind λ fv=>
 (match s.ro with
  |some l=>match s.m.get l with
   |some (.loop r)=>R.ok (r.defers,s.m,([]:List Nat))
   |_=>.no 320
  |none=>.ok (s.m.next,s.m.alloc .defd,[s.m.next])).bind λ(dfb,A,mark)=>
 let lid:=A.next
 let A:=A.alloc (.loop {state:=.ready,pending:=V,fn:=fnId,tmps:=s.t,n:=s.n,params,assign,body,defers:=dfb})
 (tw tb A.get fv [.func (.yield lid) ⟨[]⟩ ⟨[]⟩]).bind λ c=>(cE tb ih c A).bind λ r=>
 match r with
 |.ef _ _=>.no 324
 |.val _ A=>match A.get lid with
  |some (.loop r)=>
   let s':St:={s with m:=A.set lid (.loop {r with state:=.exhausted}),d:=mark++s.d}
   match r.state,r.pending with
   |.busy,_=>.no 321
   |_,V=>.ok (.nrm,s')
   |_,U (.exit id)=>.ok (.exit id,s')
   |_,U .ret=>.ok (.ret,s')
   |_,U _=>.no 322
  |_=>.no 323
def Li(c:aH)(s:St):R (Ex×St):=
 match c with
 |.skip=>.ok (.nrm,s)
 |.label _=>.ok (.nrm,s)
 |.region _ ops draw=>regionF tb ih ops.toList draw s
 |.seq a b=>(ih a s).bind λ(e,s')=>match e with
  |.nrm=>ih b s'
  |e=>.ok (e,s')
 |.cond c a b=>(ev s.t c).bind λ v=>match v with
  |.bool ae=>ih a s
  |.bool ag=>ih b s
  |_=>.no 330
 |.block id c=>(ih c s).bind λ(e,s')=>match e with
  |.exit i=>bif aL i id then .ok (.nrm,s')else .ok (.exit i,s')
  |e=>.ok (e,s')
 |.loop c=>(ih c s).bind λ(e,s')=>match e with
  |.nrm=>ih (.loop c) s'
  |e=>.ok (e,s')
 |.scope c=>ih c s
 |.exit id=>.ok (.exit id,s)
 |.ret=>.ok (.ret,s)
 |.rangeFunc f ps a b=>xc tb ih f ps.toList a b 0 s
 |.goto _=>.no 331
 |.refuse _=>.no 332
end
def exec(tb:aN)(n:Nat):aH->St->R (Ex×St):=
 Nat.rec (motive:=λ _=>aH->St->R (Ex×St)) (λ _ _=>.no 0) (λ _ ih=>Li tb ih) n
def call(tb:aN)(n:Nat)(f:FuncId)(args:List I)(A:Mem):R nh:=
 match tb.fn.get f with
 |none=>.no 400
 |some fn=>match fn.body with
  |none=>.no 401
  |some c=>pT tb (exec tb n) fn c args A
structure Loc where
 blk:Nat
 sh:Nat
 sz:Nat
abbrev bj:=Nat->Option Loc
def QD:Fn->Prop
 |.yield _=>False
 |_=>True
mutual
inductive VR (ι:bj):I->I->Prop
 |bool (b:Bool):VR ι (.bool b) (.bool b)
 |int (k:cS) (n:Int):VR ι (.int k n) (.int k n)
 |string (s:ByteArray):VR ι (.string s) (.string s)
 |ptrN:VR ι (.pointer V) (.pointer V)
 |ptr {b o:Nat} {l:Loc} (h:ι b=U l):VR ι (.pointer (U ⟨b,o,V⟩)) (.pointer (U ⟨l.blk,o+l.sh,V⟩))
 |slN:VR ι (.slice V 0 0) (.slice V 0 0)
 |sl {b o len k:Nat} {l:Loc} (h:ι b=U l) (hk:ed k=ae):VR ι (.slice (U ⟨b,o,V⟩) len k) (.slice (U ⟨l.blk,o+l.sh,V⟩) len (bV k))
 |slX {b o o' len k cap':Nat} {l:Loc} (h:ι b=U l) (hk:ed k=ag) (hc:bV k<=cap') (hsz:o'+cap'*hY k<=l.sz)
  (ho:0<cap'->o'=o+l.sh) (hb:cap'<2^63) (hl:len<=bV k):VR ι (.slice (U ⟨b,o,V⟩) len k) (.slice (U ⟨l.blk,o',V⟩) len cap')
 |mapN:VR ι (.map V) (.map V)
 |map {b:Nat} {l:Loc} (h:ι b=U l):VR ι (.map (U b)) (.map (U l.blk))
 |func {fn:Fn} {a b a' b':Array I} (hf:QD fn) (ha:bI ι a.toList a'.toList) (hb:bI ι b.toList b'.toList):VR ι (.func fn a b) (.func fn a' b')
 |yield {b:Nat} {l:Loc} (h:ι b=U l):VR ι (.func (.yield b) ⟨[]⟩ ⟨[]⟩) (.func (.yield l.blk) ⟨[]⟩ ⟨[]⟩)
 |nilFunc:VR ι .nilFunc .nilFunc
 |nilIface:VR ι .nilIface .nilIface
 |iface {t:au} {v v':I} (h:VR ι v v'):VR ι (.iface t v) (.iface t v')
 |agg {a a':Array I} (h:bI ι a.toList a'.toList):VR ι (.agg a) (.agg a')
 |tuple {a a':Array I} (h:bI ι a.toList a'.toList):VR ι (.tuple a) (.tuple a')
 |unk {v':I} (h:bS v'=ae):VR ι (.chan (U 0)) v'
 |least {n m:Nat} (h:n<=m) (hm:m<2^63):VR ι (.complex .f64 n 0) (.int .i64 (.ofNat m))
 |emp (a:Addr):VR ι (.complex .f32 0 0) (.slice (U a) 0 0)
inductive bI (ι:bj):List I->List I->Prop
 |nil:bI ι [] []
 |cons {v v':I} {l l':List I} (h:VR ι v v') (ht:bI ι l l'):bI ι (v::l) (v'::l')
end
def gW(ι ι':bj):Prop:=∀b l,ι b=U l->ι' b=U l
def gW.trans{a b c:bj}(h:gW a b)(k:gW b c):gW a c:=λ x l hx=>k x l (h x l hx)
mutual
theorem VR.mono{ι ι':bj}(hi:gW ι ι'){v v':I}(h:VR ι v v'):VR ι' v v':=by
 cases h with
 |bool b=>exact .bool b
 |int k n=>exact .int k n
 |string s=>exact .string s
 |ptrN=>exact .ptrN
 |ptr h=>exact .ptr (hi _ _ h)
 |slN=>exact .slN
 |sl h hk=>exact .sl (hi _ _ h) hk
 |slX h hk hc hsz ho hb hl=>exact .slX (hi _ _ h) hk hc hsz ho hb hl
 |mapN=>exact .mapN
 |map h=>exact .map (hi _ _ h)
 |func hf ha hb=>exact .func hf (bI.mono hi ha) (bI.mono hi hb)
 |yield h=>exact .yield (hi _ _ h)
 |nilFunc=>exact .nilFunc
 |nilIface=>exact .nilIface
 |iface h=>exact .iface (VR.mono hi h)
 |agg h=>exact .agg (bI.mono hi h)
 |tuple h=>exact .tuple (bI.mono hi h)
 |unk h=>exact .unk h
 |least h hm=>exact .least h hm
 |emp a=>exact .emp a
theorem bI.mono{ι ι':bj}(hi:gW ι ι'){l l':List I}(h:bI ι l l'):bI ι' l l':=by
 cases h with
 |nil=>exact .nil
 |cons h ht=>exact .cons (VR.mono hi h) (bI.mono hi ht)
end
variable {ι:bj}
def bI.length:∀{l l':List I},bI ι l l'->Z l'=Z l
 |_,_,.nil=>rfl
 |_,_,.cons _ ht=>by simp[ht.length]
def bI.get:∀{l l':List I},bI ι l l'->∀(i:Nat) (v:I),l[i]?=U v->∃v',l'[i]?=U v'/\VR ι v v'
 |_,_,.nil,i,v,h=>by simp at h
 |_,_,.cons h ht,0,v,e=>by simp at e;subst e;exact⟨_,rfl,h⟩
 |_,_,.cons h ht,i+1,v,e=>by
  simp at e;obtain⟨v',e',r⟩:=ht.get i v e;exact⟨v',by simpa using e',r⟩
theorem bI.C8:∀{l l':List I},Z l'=Z l->(∀(i:Nat) (v v':I),l[i]?=U v->l'[i]?=U v'->VR ι v v')->bI ι l l'
 | [],[],_,_=>.nil
 | [],_::_,h,_=>by simp at h
 |_::_,[],h,_=>by simp at h
 |v::l,v'::l',h,f=>.cons (f 0 v v' rfl rfl) (bI.C8 (by simpa using h) λ i a b ha hb=>f (i+1) a b (by simpa using ha) (by simpa using hb))
def bI.append:∀{a a' b b':List I},bI ι a a'->bI ι b b'->bI ι (a++b) (a'++b')
 |_,_,_,_,.nil,h=>h
 |_,_,_,_,.cons h ht,k=>.cons h (ht.append k)
def bI.take:∀{a a':List I} (n:Nat),bI ι a a'->bI ι (a.take n) (a'.take n)
 |_,_,0,_=>by simpa using .nil
 |_,_,n+1,.nil=>by simpa using .nil
 |_,_,n+1,.cons h ht=>by simpa using .cons h (ht.take n)
def bI.drop:∀{a a':List I} (n:Nat),bI ι a a'->bI ι (a.drop n) (a'.drop n)
 |_,_,0,h=>by simpa using h
 |_,_,n+1,.nil=>by simpa using .nil
 |_,_,n+1,.cons _ ht=>by simpa using ht.drop n
variable {v v':I}
def VR.cells(h:VR ι v v'):bI ι v.cells.toList v'.cells.toList:=by
 have hc:=h;cases h with
 |agg h=>exact h
 |unk h1=>
  have e:v'.cells= #[v']:=by
   cases v'<;>first|rfl|simp[bS]at h1
  rw[e];exact .cons hc .nil
 |_=>exact .cons hc .nil
def VR.one(h:VR ι v v')(h1:bS v=ae):bS v'=ae:=by
 cases h<;>first|rfl|assumption|simp[bS]at h1
mutual
theorem E6{ι:bj}:∀(d:Nat) (v:I),rX d v=ae->VR ι v v
 |0,_,h=>by simp[rX]at h
 |d+1,v,h=>by
  unfold rX at h;split at h<;>first
   |(constructor;done)
   |exact .iface (E6 d _ h)
   |exact .agg (I2 d _ (oT.1 h))
   |exact .tuple (I2 d _ (oT.1 h))
   |exact .func trivial .nil .nil
   |simp at h
theorem I2{ι:bj}:∀(d:Nat) (l:List I),(∀v∈l,rX d v=ae)->bI ι l l
 |d,[],_=>.nil
 |d,v::l,h=>.cons (E6 d v (h v (by simp))) (I2 d l λ x hx=>h x (by simp[hx]))
end
def TR(ι:bj)(n:Nat)(τ:T I)(t:Array I):Prop:=t.size=n/\∀i v,τ.get i=U v->∃v',t[i]?=U v'/\VR ι v v'
variable {ι':bj}{n:Nat}
def TR.mono(hi:gW ι ι'){τ:T I}{t:Array I}(h:TR ι n τ t):TR ι' n τ t:=
 ⟨h.1,λ i v hv=>let⟨v',e,r⟩:=h.2 i v hv;⟨v',e,r.mono hi⟩⟩
variable {d:Nat}
def TR.set{τ:T I}{t:Array I}(h:TR ι n τ t)(hd:d<n)(hv:VR ι v v'):TR ι n (τ.set d v) (t.setIfInBounds d v'):=by
 refine⟨by simp[h.1],λ i x hx=>?_⟩;rw[T.bR]at hx;by_cases hi:i=d
 .subst hi;rw[aA rfl]at hx;cases hx;exact⟨v',by simp[h.1,hd],hv⟩
 .rw[ax hi]at hx;obtain⟨x',e,r⟩:=h.2 i x hx;refine⟨x',?_,r⟩;rw[LO (Ne.symm hi)];exact e
inductive iO (ι:bj):List MapEntry->List MapEntry->Prop
 |nil:iO ι [] []
 |cons {e e':MapEntry} {l l':List MapEntry} (hk:VR ι e.key e'.key) (hb:e'.born=e.born) (hv:VR ι e.val e'.val) (ht:iO ι l l'):iO ι (e::l) (e'::l')
def iO.mono(hi:gW ι ι'):∀{l l':List MapEntry},iO ι l l'->iO ι' l l'
 |_,_,.nil=>.nil
 |_,_,.cons hk hb hv ht=>.cons (hk.mono hi) hb (hv.mono hi) (ht.mono hi)
def iO.length:∀{l l':List MapEntry},iO ι l l'->Z l'=Z l
 |_,_,.nil=>rfl
 |_,_,.cons _ _ _ ht=>by simp[ht.length]
structure LR (ι:bj) (r:jd) (r':Loop):Prop where
 state:r'.state=r.state
 pending:r'.pending=r.pending
 tmps:TR ι r.n r.tmps r'.tmps
 params:r'.params.toList=r.params
 assign:r'.assign=r.assign
 body:r'.body=r.body
 defers:∃l,ι r.defers=U l/\r'.defers=l.blk
def OR(ι:bj)(o:Ob)(l:Loc)(o':Obj):Prop:=
 match o with
 |.cells t x fz c=>∃cs fr,o'=.cells cs t fr/\cs.size=l.sz/\(∀i v,c.get i=U v->∃v',cs[i+l.sh]?=U v'/\VR ι v v')/\
  match x with
  |.var n=>l.sh=0/\l.sz=n/\fr=(0,0)
  |.row=>fr.2<=l.sh+fz
  |.mark=>∀i,i<l.sz->¬(fr.1<=i/\i<fr.2)
  |.room n=>fr.2<=l.sh+fz/\l.sh+n<=l.sz
 |.map es clock=>l.sh=0/\∃es',o'=.map es' clock/\iO ι es es'.toList
 |.sit s pos=>l.sh=0/\o'=.stringIter s pos
 |.mit m c b=>l.sh=0/\∃lm,ι m=U lm/\o'=.mapIter (U lm.blk) c b.toArray c
 |.loop r=>l.sh=0/\∃r',o'=.loop r'/\LR ι r r'
 |.defd=>o'=.deferred (U [])
 |.dead=>True
variable {o':Obj}
def OR.mono(hi:gW ι ι'){o:Ob}{l:Loc}(h:OR ι o l o'):OR ι' o l o':=by
 cases o with
 |cells t x fz c=>
  obtain⟨cs,fr,e,h1,h2,h3⟩:=h;exact⟨cs,fr,e,h1,λ i v hv=>let⟨v',e,r⟩:=h2 i v hv;⟨v',e,r.mono hi⟩,h3⟩
 |map es clock=>obtain⟨h0,es',e,h⟩:=h;exact⟨h0,es',e,h.mono hi⟩
 |sit s pos=>exact h
 |mit m c b=>obtain⟨h0,lm,h1,h2⟩:=h;exact⟨h0,lm,hi _ _ h1,h2⟩
 |loop r=>
  obtain⟨h0,r',e,h⟩:=h;obtain⟨ld,hl,hd⟩:=h.defers;exact⟨h0,r',e,⟨h.state,h.pending,h.tmps.mono hi,h.params,h.assign,h.body,ld,hi _ _ hl,hd⟩⟩
 |defd=>exact h
 |dead=>trivial
def alive:Ob->Bool
 |.dead=>ag
 |_=>ae
def live(A:Mem)(b:Nat):Prop:=∃o,A.get b=U o/\alive o=ae
structure Rel (ι:bj) (A:Mem) (w:aF):Prop where
 wf:∀b,A.next<=b->A.get b=V
 obs:∀b o l,A.get b=U o->alive o=ae->ι b=U l->∃o',w.heap[l.blk]?=U o'/\OR ι o l o'
 rng:∀b l,ι b=U l->l.blk<w.heap.size
 inj:∀b b' l l',live A b->live A b'->ι b=U l->ι b'=U l'->l.blk=l'.blk->b=b'
 gl:∀b t k c,A.get b=U (.cells t .row (GB k) c)->∃l,ι b=U l/\l.blk=k/\l.sh=0/\l.sz<=18446744073709551616
def eA(ι:bj)(A A':Mem):Prop:=∀b,A.next<=b->b<A'.next->ι b=V
def Still(A:Mem)(b:Nat)(l:Loc):Prop:=b<A.next/\∃t fz c,A.get b=U (.cells t .row fz c)/\9223372036854775808<=fz/\l.sz<fz
structure bY (ι:bj) (A:Mem) (w:aF) (ι':bj) (A':Mem) (w':aF):Prop where
 next:A.next<=A'.next
 out:∀b,b<A.next\/A'.next<=b->ι' b=ι b
 src:∀b l,live A' b->ι' b=U l->w.heap.size<=l.blk\/∃b0 l0,live A b0/\ι b0=U l0/\l0.blk=l.blk
 fr:∀c,c<w.heap.size->(∀b l,live A b->ι b=U l->l.blk≠c)->w'.heap[c]?=w.heap[c]?
 size:w.heap.size<=w'.heap.size
 os:w'.os=w.os
 tape:w'.tape=w.tape
 output:w'.output=w.output
 kept:∀b l,ι b=U l->Still A b l->A'.get b=A.get b/\w'.heap[l.blk]?=w.heap[l.blk]?
variable {A A':Mem}{w':aF}
def bY.le{w:aF}(h:bY ι A w ι' A' w')(hf:eA ι A A'):gW ι ι':=by
 intro b l hb;rcases ec b A.next with h1|h1
 .rw[h.out b (.inl h1)];exact hb
 .rcases ec b A'.next with h2|h2
  .rw[hf b h1 h2]at hb;cases hb
  .rw[h.out b (.inr h2)];exact hb
def bY.refl(ι:bj)(A:Mem)(w:aF):bY ι A w ι A w:=
 ⟨aI _,λ _ _=>rfl,λ b l hb hl=>.inr ⟨b,l,hb,hl,rfl⟩,λ _ _ _=>rfl,aI _,rfl,rfl,rfl,λ _ _ _ _=>⟨rfl,rfl⟩⟩
def bY.trans{ι1 ι2:bj}{A1 A2:Mem}{w w1 w2:aF}(h:bY ι A w ι1 A1 w1)(k:bY ι1 A1 w1 ι2 A2 w2):bY ι A w ι2 A2 w2 where
 next:=dm h.next k.next
 out:=λ b hb=>by
  have:=h.next
  have:=k.next
  rw[k.out b (by omega),h.out b (by omega)]
 src:=λ b l hb hl=>by
  rcases k.src b l hb hl with h1|⟨b0,l0,h1,h2,h3⟩
  .exact .inl (dm h.size h1)
  .rcases h.src b0 l0 h1 h2 with h4|⟨b1,l1,h4,h5,h6⟩
   .exact .inl (by omega)
   .exact .inr ⟨b1,l1,h4,h5,by omega⟩
 fr:=λ c hc hn=>by
  rw[k.fr c (c9 hc h.size),h.fr c hc hn];intro b l hb hl he;rcases h.src b l hb hl with h1|⟨b0,l0,h1,h2,h3⟩
  .omega
  .exact hn b0 l0 h1 h2 (by omega)
 size:=dm h.size k.size
 os:=k.os.trans h.os
 tape:=k.tape.trans h.tape
 output:=k.output.trans h.output
 kept:=λ b l hl hs=>by
  obtain⟨e1,e2⟩:=h.kept b l hl hs;obtain⟨h1,t,fz,c,h2,h3⟩:=hs;obtain⟨e3,e4⟩:=k.kept b l (by rw[h.out b (.inl h1)];exact hl) ⟨c9 h1 h.next,t,fz,c,by rw[e1];exact h2,h3⟩;exact⟨e3.trans e1,e4.trans e2⟩
def eA.left{A1 A2:Mem}(h:eA ι A A2)(k:A1.next<=A2.next):eA ι A A1:=λ b h1 h2=>h b h1 (by omega)
def eA.right{ι1:bj}{A1 A2:Mem}{w w1:aF}(h:eA ι A A2)(k:bY ι A w ι1 A1 w1):eA ι1 A1 A2:=λ b h1 h2=>by
 rw[k.out b (.inr h1)];exact h b (dm k.next h1) h2
structure Wu (w w':aF) (c:Nat) (o:Obj):Prop where
 size:w.heap.size<=w'.heap.size
 at_:w'.heap[c]?=U o
 ne:∀k,k<w.heap.size->k≠c->w'.heap[k]?=w.heap[k]?
 os:w'.os=w.os
 tape:w'.tape=w.tape
 output:w'.output=w.output
def cN(A:Mem)(b x:Nat)(o:Ob):(A.set b o).get x=if x=b then U o else A.get x:=T.bR ..
def ma(A:Mem)(x:Nat)(o:Ob):(A.alloc o).get x=if x=A.next then U o else A.get x:=T.bR ..
def cU(A:Mem)(b:Nat)(o:Ob):(A.set b o).next=A.next:=rfl
def aG(A:Mem)(o:Ob):(A.alloc o).next=A.next+1:=rfl
variable {b:Nat}
def qT{l:Loc}{o:Ob}(hg:A.get b=U o)(h:∀t fz c,o=.cells t .row fz c->fz<9223372036854775808\/fz<=l.sz):¬Still A b l:=by
 rintro⟨_,t,fz,c,h2,h3,h4⟩;rw[hg]at h2;cases h2;rcases h t fz c rfl with h|h<;>omega
variable {ob:Ob}
def Rel.sk{w:aF}{o:Ob}{l:Loc}(h:Rel ι A w)(hg:A.get b=U o)(ha:alive o=ae)(hl:ι b=U l)(hns:¬Still A b l)(hgl:∀t k c,ob=.cells t .row (GB k) c->∃t' c',o=.cells t' .row (GB k) c')
 (hw:Wu w w' l.blk o')(hs:w'.heap.size=w.heap.size)(ho:OR ι ob l o'):Rel ι (A.set b ob) w'/\bY ι A w ι (A.set b ob) w':=by
 have hlive:∀x,live (A.set b ob) x->live A x:=by
  rintro x ⟨ox,hx,hal⟩;rw[cN]at hx;by_cases hxb:x=b
  .subst hxb;exact⟨o,hg,ha⟩
  .rw[ax hxb]at hx;exact⟨ox,hx,hal⟩
 refine⟨⟨λ x hx=>?_,λ x ox lx hx hal hlx=>?_,λ x lx hlx=>by rw[hs];exact h.rng x lx hlx,λ x y lx ly hx hy hlx hly he=>h.inj x y lx ly (hlive x hx) (hlive y hy) hlx hly he,λ x t k c hx=>by
  rw[cN]at hx;by_cases hxb:x=b
  .subst hxb;rw[aA rfl]at hx;obtain⟨t',c',rfl⟩:=hgl t k c (iR hx);exact h.gl x _ _ _ hg
  .rw[ax hxb]at hx;exact h.gl x _ _ _ hx⟩,
  ⟨aI _,λ _ _=>rfl,λ x lx hx hlx=>.inr ⟨x,lx,hlive x hx,hlx,rfl⟩,λ c hc hn=>hw.ne c hc ?_,by omega,hw.os,hw.tape,hw.output,λ x lx hlx hsx=>?_⟩⟩
 .rw[cU]at hx;rw[cN,ax]
  .exact h.wf x hx
  .rintro rfl;rw[h.wf x hx]at hg;cases hg
 .rw[cN]at hx;by_cases hxb:x=b
  .subst hxb;rw[aA rfl]at hx;cases hx;rw[hl]at hlx;cases hlx;exact⟨o',hw.at_,ho⟩
  .rw[ax hxb]at hx;obtain⟨o2,h1,h2⟩:=h.obs x ox lx hx hal hlx;refine⟨o2,?_,h2⟩;rw[hw.ne _ (h.rng x lx hlx)]
   .exact h1
   .intro he;exact hxb (h.inj x b lx l ⟨ox,hx,hal⟩ ⟨o,hg,ha⟩ hlx hl he)
 .rintro rfl;exact hn b l ⟨o,hg,ha⟩ hl rfl
 .have hxb:x≠b:=by
   rintro rfl;rw[hl]at hlx;cases hlx;exact hns hsx
  obtain⟨_,t,fz,c,h2,_⟩:=hsx;refine⟨by rw[cN,ax hxb],hw.ne _ (h.rng x lx hlx) λ he=>hxb (h.inj x b lx l ⟨_,h2,rfl⟩ ⟨o,hg,ha⟩ hlx hl he)⟩
def Rel.Nt{w:aF}{sz g:Nat}(h:Rel ι A w)(hf:ι A.next=V)(hgl:∀t k c,ob≠.cells t .row (GB k) c)
 (hg:w.heap.size<=g)(hw:Wu w w' g o')(hs:g<w'.heap.size)
 (ho:∀ι',gW ι ι'->ι' A.next=U ⟨g,0,sz⟩->OR ι' ob ⟨g,0,sz⟩ o'):
 ∃ι',ι' A.next=U ⟨g,0,sz⟩/\Rel ι' (A.alloc ob) w'/\bY ι A w ι' (A.alloc ob) w':=by
 let ι':bj:=λ b=>if b=A.next then U ⟨g,0,sz⟩else ι b
 have hin:ι' A.next=U ⟨g,0,sz⟩:=aA rfl
 have hne:∀b,b≠A.next->ι' b=ι b:=λ b hb=>ax hb
 have hle:gW ι ι':=λ b l hb=>by
  by_cases e:b=A.next
  .rw[e,hf]at hb;cases hb
  .rw[hne b e];exact hb
 have hlive:∀x,x≠A.next->live (A.alloc ob) x->live A x:=by
  rintro x hne ⟨ox,hx,hal⟩;rw[ma,ax hne]at hx;exact⟨ox,hx,hal⟩
 refine⟨ι',hin,⟨λ x hx=>?_,λ x ox lx hx hal hlx=>?_,λ x lx hlx=>?_,λ x y lx ly hx hy hlx hly he=>?_,λ x t k c hx=>by
  rw[ma]at hx;by_cases e:x=A.next
  .rw[aA e]at hx;exact aU (iR hx) (hgl t k c)
  .rw[ax e]at hx;rw[hne x e];exact h.gl x _ _ _ hx⟩,
  ⟨by rw[aG];omega,λ x hx=>hne x ?_,λ x lx hx hlx=>?_,λ c hc _=>hw.ne c hc (by omega),by omega,hw.os,hw.tape,hw.output,λ x lx hlx hsx=>⟨by rw[ma,ax (by have:=hsx.1;omega)],hw.ne _ (h.rng x lx hlx) (by have:=h.rng x lx hlx;omega)⟩⟩⟩
 .rw[aG]at hx;rw[ma,ax (by omega)];exact h.wf x (by omega)
 .rw[ma]at hx;by_cases e:x=A.next
  .subst e;rw[aA rfl]at hx;cases hx;rw[hin]at hlx;cases hlx;exact⟨o',hw.at_,ho ι' hle hin⟩
  .rw[ax e]at hx;rw[hne x e]at hlx;obtain⟨o2,h1,h2⟩:=h.obs x ox lx hx hal hlx;exact⟨o2,by rw[hw.ne _ (h.rng x lx hlx) (by have:=h.rng x lx hlx;omega)];exact h1,h2.mono hle⟩
 .by_cases e:x=A.next
  .subst e;rw[hin]at hlx;cases hlx;exact hs
  .rw[hne x e]at hlx;have:=h.rng x lx hlx;omega
 .by_cases ex:x=A.next
  .by_cases ey:y=A.next
   .omega
   .subst ex;rw[hin]at hlx;cases hlx;rw[hne y ey]at hly;have:=h.rng y ly hly;simp only at he;omega
  .by_cases ey:y=A.next
   .subst ey;rw[hin]at hly;cases hly;rw[hne x ex]at hlx;have:=h.rng x lx hlx;simp only at he;omega
   .rw[hne x ex]at hlx;rw[hne y ey]at hly;exact h.inj x y lx ly (hlive x ex hx) (hlive y ey hy) hlx hly he
 .rw[aG]at hx;omega
 .by_cases e:x=A.next
  .subst e;rw[hin]at hlx;cases hlx;exact .inl hg
  .rw[hne x e]at hlx;exact .inr ⟨x,lx,hlive x e hx,hlx,rfl⟩
def Rel.uE{w:aF}{sz:Nat}(h:Rel ι A w)(hf:ι A.next=V)(hgl:∀t k c,ob≠.cells t .row (GB k) c)
 (hw:Wu w w' w.heap.size o')(hs:w'.heap.size=w.heap.size+1)
 (ho:∀ι',gW ι ι'->ι' A.next=U ⟨w.heap.size,0,sz⟩->OR ι' ob ⟨w.heap.size,0,sz⟩ o'):
 ∃ι',ι' A.next=U ⟨w.heap.size,0,sz⟩/\Rel ι' (A.alloc ob) w'/\bY ι A w ι' (A.alloc ob) w':=h.Nt hf hgl (aI _) hw (by omega) ho
section
def R.aC{α β:Type}{x:R α}{f:α->R β}{b:β}(h:x.bind f=.ok b):∃a,x=.ok a/\f a=.ok b:=by
 cases x with
 |ok a=>exact⟨a,rfl,h⟩
 |no w=>cases h
def jE{a:Nat}(h:aO a b=ae):a<b:=by rw[bZ]at h;exact h
def HZ{a:Nat}(h:aO a b=ag):¬a<b:=λ h'=>by
 have:aO a b=ae:=by rw[bZ];exact h'
 rw[h]at this;cases this
def jD{a:Nat}(h:av a b=ae):a<=b:=by rw[sS]at h;exact h
def HY{a:Nat}(h:av a b=ag):¬a<=b:=λ h'=>by
 have:av a b=ae:=by rw[sS];exact h'
 rw[h]at this;cases this
def beq_true{a:Nat}(h:aL a b=ae):a=b:=eW h
def beq_false{a:Nat}(h:aL a b=ag):a≠b:=Hs h
def Ap(a b:Int):nW a b=decide (a<b):=by
 cases a<;>cases b<;>simp only[nW]
 .rename_i x y;rw[qk];simp[bZ]
 .rename_i x y;symm;simp;omega
 .rename_i x y;symm;simp;omega
 .rename_i x y;rw[qk];simp[bZ];omega
def wW(a b:Int):kV a b=(a==b):=by
 cases a<;>cases b<;>simp only[kV]
 .rename_i x y;rw[qk];simp only[qp,beq_iff_eq,iu];omega
 .symm;simp
 .symm;simp
 .rename_i x y;rw[qk];simp
def CY{a b:cS}(h:jv a b=ae):a=b:=by
 cases a<;>cases b<;>first|rfl|simp[jv]at h
def Px{k:cS}{n:Int}(h:di k n=ae):k.min<=n/\n<=k.max:=by
 cases k<;>cases n<;>simp only[di,bZ,dR]at h<;>
  simp only[IntKind.min,IntKind.max,IntKind.signed,IntKind.bits,bB,bg,dR,iu]<;>constructor<;>omega
def xG{k:cS}{n:Int}(h1:k.min<=n)(h2:n<=k.max):k.wrap n=n:=by
 have key:∀c d:Int,0<d->(k.signed=ae->c=d+d/\-d<=n/\n<d)->(k.signed=ag->d=c/\0<=n/\n<c)->
  (if(k.signed&&decide (n % c>=d))=ae then n % c-c else n % c)=n:=by
  intro c d hd hs hu;cases hk:k.signed with
  |false=>
   obtain⟨_,h3,h4⟩:=hu hk;rw[Bo,ax (by simp)];exact Int.emod_eq_of_lt h3 h4
  |true=>
   obtain⟨h3,h4,h5⟩:=hs hk;rw[tR];by_cases h6:0<=n
   .rw[Int.emod_eq_of_lt h6 (by omega),ax (by simp only[decide_eq_true_eq];omega)]
   .have e:n % c=n+c:=by
     rw[<-Int.add_emod_right,Int.emod_eq_of_lt (by omega) (by omega)]
    rw[e,aA (by simp only[decide_eq_true_eq];omega)];omega
 have:=key (2^k.bits) (if k.signed then 2^(k.bits-1)else 2^k.bits) (by cases k<;>decide)
  (λ hs=>by
   rw[aA hs];simp only[IntKind.min,IntKind.max,hs,bB]at h1 h2;refine⟨by cases k<;>first|rfl|(cases hs),h1,by omega⟩)
  (λ hs=>by
   rw[ax (by simp[hs])];simp only[IntKind.min,IntKind.max,hs,bg,dR]at h1 h2;exact⟨rfl,h1,by omega⟩)
 unfold IntKind.wrap;cases hk:k.signed with
 |true=>simpa[hk]using this
 |false=>simpa[hk]using this
def qj(k:cS)(n:Int):eL k n=k.wrap n:=by
 unfold eL;cases h:di k n with
 |false=>rfl
 |true=>obtain⟨h1,h2⟩:=Px h;exact(xG h1 h2).symm
def JM{k:cS}{a:Nat}(h:di k (.ofNat a)=ae):∃e,e<=k.bits/\a<2^e/\∀b:Nat,b<2^e->k.wrap (.ofNat b)=.ofNat b:=by
 have key:∀e,e<=k.bits->((2^e-1:Nat):Int)<=k.max->∀b:Nat,b<2^e->k.wrap (.ofNat b)=.ofNat b:=by
  intro e _ h2 b hb;refine xG ?_ ?_
  .have:k.min<=0:=by cases k<;>decide
   have h0:(0:Int)<=cK b:=zq b;omega
  .have:(cK b)<=((2^e-1:Nat):Int):=by
    show(b:Int)<=_;omega
   omega
 cases k<;>simp only[di,bZ,dR]at h
 .exact⟨31,by decide,h,key 31 (by decide) (by decide)⟩
 .exact⟨63,by decide,h,key 63 (by decide) (by decide)⟩
 .exact⟨8,by decide,h,key 8 (by decide) (by decide)⟩
 .exact⟨16,by decide,h,key 16 (by decide) (by decide)⟩
 .exact⟨32,by decide,h,key 32 (by decide) (by decide)⟩
 .exact⟨64,by decide,h,key 64 (by decide) (by decide)⟩
def qad{k:cS}{a:Nat}(ha:di k (.ofNat a)=ae)(hb:di k (.ofNat b)=ae):
 ∃e,e<=k.bits/\a<2^e/\b<2^e/\∀c:Nat,c<2^e->k.wrap (.ofNat c)=.ofNat c:=by
 obtain⟨e,h1,h2,h3⟩:=JM ha;obtain⟨f,k1,k2,k3⟩:=JM hb;rcases Nat.le_total e f with h|h
 .exact⟨f,k1,c9 h2 (rn (by omega) h),k2,k3⟩
 .exact⟨e,h1,h2,c9 k2 (rn (by omega) h),h3⟩
variable {P:cI}
def Ey{op:BinOp}{k:cS}{x y:Int}(h:Cg op k x y=.ok v)(w:aF):(Op.intBits op k x y).run P w=.ok v w:=by
 have aux:∀(a b:Nat),di k (.ofNat a)=ae->di k (.ofNat b)=ae->∃e,a<2^e/\b<2^e/\(∀c:Nat,c<2^e->k.wrap (.ofNat c)=.ofNat c)/\
  (BitVec.ofInt k.bits (.ofNat a)).toNat=a/\(BitVec.ofInt k.bits (.ofNat b)).toNat=b:=by
  intro a b ha hb;obtain⟨e,h0,h1,h2,h3⟩:=qad ha hb;have hle:2^e<=2^k.bits:=rn (by omega) h0;have cast:∀n:Nat,n<2^k.bits->(BitVec.ofInt k.bits (.ofNat n)).toNat=n:=by
   intro n hn;show(BitVec.ofInt k.bits (n:Int)).toNat=n;rw[BitVec.ofInt_natCast,BitVec.toNat_ofNat,rm hn]
  exact⟨e,h1,h2,h3,cast a (by omega),cast b (by omega)⟩
 unfold Cg at h;split at h
 .rename_i a b;cases hc:(di k (.ofNat a)&&di k (.ofNat b))with
  |false=>rw[hc]at h;cases h
  |true=>
   rw[hc]at h;simp only[aJ,ay]at h;subst h;simp only[dW]at hc;obtain⟨e,h1,h2,h3,h4,h5⟩:=aux a b hc.1 hc.2;simp only[Op.intBits];show Result.ok _ _=_;rw[BitVec.toNat_and,h4,h5];have:=h3 (a&&&b) (mz Nat.and_le_left h1);exact cX (λ n=>Result.ok (Value.int k n) w) this
 .rename_i a b;cases hc:(di k (.ofNat a)&&di k (.ofNat b))with
  |false=>rw[hc]at h;cases h
  |true=>
   rw[hc]at h;simp only[aJ,ay]at h;subst h;simp only[dW]at hc;obtain⟨e,h1,h2,h3,h4,h5⟩:=aux a b hc.1 hc.2;simp only[Op.intBits];show Result.ok _ _=_;rw[BitVec.toNat_or,h4,h5];have:=h3 (a|||b) (Nat.or_lt_two_pow h1 h2);exact cX (λ n=>Result.ok (Value.int k n) w) this
 .rename_i a b;cases hc:(di k (.ofNat a)&&di k (.ofNat b))with
  |false=>rw[hc]at h;cases h
  |true=>
   rw[hc]at h;simp only[aJ,ay]at h;subst h;simp only[dW]at hc;obtain⟨e,h1,h2,h3,h4,h5⟩:=aux a b hc.1 hc.2;simp only[Op.intBits];show Result.ok _ _=_;rw[BitVec.toNat_xor,h4,h5];have:=h3 (a^^^b) (Eh h1 h2);exact cX (λ n=>Result.ok (Value.int k n) w) this
 .rename_i a b;cases hc:(di k (.ofNat a)&&di k (.negSucc b))with
  |false=>rw[hc]at h;cases h
  |true=>
   rw[hc]at h;simp only[aJ,ay]at h;subst h;simp only[dW]at hc;obtain⟨e,h0,h1,h3⟩:=JM hc.1;have hle:2^e<=2^k.bits:=rn (by omega) h0;have ha:(BitVec.ofInt k.bits (.ofNat a))=BitVec.ofNat k.bits a:=BitVec.ofInt_natCast ..;have hb:(BitVec.ofInt k.bits (.negSucc b))= ~~~BitVec.ofNat k.bits b:=BitVec.ofInt_negSucc_eq_not_ofNat ..;simp only[Op.intBits];show Result.ok _ _=_;rw[ha,hb];have e1:(BitVec.ofNat k.bits a&&&~~~BitVec.ofNat k.bits b).toNat=Nat.xor a (Nat.land a b):=by
    apply Nat.eq_of_testBit_eq;intro i;rw[BitVec.testBit_toNat,BitVec.getLsbD_and,BitVec.getLsbD_not,BitVec.getLsbD_ofNat,BitVec.getLsbD_ofNat];show _=Nat.testBit (a^^^(a&&&b)) i;rw[Nat.testBit_xor,Nat.testBit_and];by_cases hi:i<k.bits
    .simp only[hi,decide_true,tR];cases a.testBit i<;>cases b.testBit i<;>rfl
    .have:a.testBit i=ag:=Nat.testBit_lt_two_pow (c9 h1 (rn (by omega) (by omega)));simp[hi,this]
   rw[e1];have:=h3 (Nat.xor a (Nat.land a b)) (Eh h1 (mz Nat.and_le_left h1));exact cX (λ n=>Result.ok (Value.int k n) w) this
 .cases h
def Tb{op:BinOp}{k yk:cS}{x y:Int}(h:Ds op k x y=.ok v)(w:aF):(Op.shift op k x yk y).run P w=.ok v w:=by
 unfold Ds at h;split at h
 .rename_i a b;simp only[ay]at h;subst h;have hb:¬(cK b<0):=by have:=zq b;show¬((b:Int)<0);omega
  simp only[Op.shift,ax hb];show Result.ok _ _=_;have e1:min (cK b).toNat k.bits=bif aO b k.bits then b else k.bits:=by
   show min b k.bits=_;cases hc:aO b k.bits with
   |true=>
    have:=jE hc;simp only[aJ];omega
   |false=>
    have:=HZ hc;simp only[bJ];omega
  rw[e1];generalize (bif aO b k.bits then b else k.bits)=n;have e2:(cK a).fdiv (2^n)=cK (a.shiftRight n):=by
   show(a:Int).fdiv (2^n)=((a.shiftRight n:Nat):Int);rw[show a.shiftRight n=a>>>n from rfl,rp];rw[Int.fdiv_eq_ediv_of_nonneg _ (by exact Int.le_of_lt (Int.pow_pos (by omega)))]
   push_cast;rfl
  rw[e2]
 .rename_i a b;have hb:¬(cK b<0):=by have:=zq b;show¬((b:Int)<0);omega
  simp only[Op.shift,ax hb];show Result.ok _ _=_;cases hc:aO b k.bits with
  |true=>
   rw[hc]at h;simp only[aJ,ay]at h;subst h;have hlt:b<k.bits:=by simpa[bZ]using hc
   have e1:min (cK b).toNat k.bits=b:=by show min b k.bits=b;omega
   rw[e1,qj];have e2:cK a*2^b=cK (a.shiftLeft b):=by
    show(a:Int)*2^b=((a.shiftLeft b:Nat):Int);rw[show a.shiftLeft b=a<<<b from rfl,Ht]
    push_cast;rfl
   rw[e2]
  |false=>
   rw[hc]at h;simp only[bJ,ay]at h;subst h;have hge:=HZ hc;have e1:min (cK b).toNat k.bits=k.bits:=by show min b k.bits=_;omega
   rw[e1];have e2:k.wrap (cK a*2^k.bits)=0:=by
    unfold IntKind.wrap;rw[Int.mul_emod_left];cases k<;>rfl
   rw[e2]
 .cases h
def NA{op:BinOp}{k:cS}{x y:Int}(h:Cx op k x y=.ok v)(w:aF):(Op.intDiv op k x y).run P w=.ok v w:=by
 have gen:∀{op':BinOp} {z:Int->Int->Int},(op'=.quo/\z=(λ x y=>k.wrap (x.tdiv y))\/op'=.rem/\z=λ x y=>x.tmod y)->
  (bif kV y 0 then(R.no 15:R I)else .ok (.int k (z x y)))=.ok v->(Op.intDiv op' k x y).run P w=.ok v w:=by
  intro op' z ho hh;rw[wW]at hh;by_cases hy:y=0
  .subst hy;simp at hh
  .have:(y==0)=ag:=by simpa using hy
   rw[this]at hh;simp only[bJ,ay]at hh;subst hh;rcases ho with⟨rfl,rfl⟩|⟨rfl,rfl⟩<;>simp only[Op.intDiv,ax hy]<;>rfl
 unfold Cx at h;split at h
 .rename_i a b;simp only[ay]at h;subst h;have hy:¬(cK (b+1)=0):=by intro h;cases h
  simp only[Op.intDiv,ax hy];show Result.ok _ _=_;rw[qj];rfl
 .rename_i a b;simp only[ay]at h;subst h;have hy:¬(cK (b+1)=0):=by intro h;cases h
  simp only[Op.intDiv,ax hy];rfl
 .exact gen (.inl ⟨rfl,rfl⟩) h
 .exact gen (.inr ⟨rfl,rfl⟩) h
 .cases h
theorem pU:∀(x y:List UInt8),oz x y=(x==y)
 | [],[]=>rfl
 | [],_::_=>rfl
 |_::_,[]=>rfl
 |a::x,b::y=>by
  have e:aL a.toNat b.toNat=(a==b):=by
   rw[qk];simp[td]
  show(aL a.toNat b.toNat&&oz x y)=_;rw[e,pU x y];rfl
theorem MV:∀(x y:List UInt8),b6 x y=Op.bytesLess x y
 | [],[]=>rfl
 |_::_,[]=>rfl
 | [],_::_=>rfl
 |a::x,b::y=>by
  have e:aL a.toNat b.toNat=(a==b):=by
   rw[qk];simp[td]
  have e2:aO a.toNat b.toNat=decide (a<b):=by
   rw[qk];simp[bZ,BV]
  show(aO a.toNat b.toNat||(aL a.toNat b.toNat&&b6 x y))=(decide (a<b)||(a==b&&Op.bytesLess x y));rw[e,e2,MV x y]
def toList_data(s:ByteArray):s.toList=s.data.toList:=by
 have key:∀(n i:Nat) (acc:List UInt8),s.size-i=n->Ha.loop s i acc=acc.reverse++s.data.toList.drop i:=by
  intro n
  induction n with
  |zero=>
   intro i acc h;unfold Ha.loop;have hs:s.size=Z s.data.toList:=by cases s;simp[ByteArray.size]
   rw[ax (by omega),DW (by omega)];simp
  |succ n ih=>
   intro i acc h;unfold Ha.loop;have hs:s.size=Z s.data.toList:=by cases s;simp[ByteArray.size]
   rw[aA (by omega),ih (i+1) _ (by omega)];have hi:i<s.data.size:=by simpa using (by omega:i<Z s.data.toList)
   have e:s.get! i=s.data.toList[i]'(by simpa using hi):=by
    cases s;simp[ByteArray.get!,hi]
   rw[mq (i:=i) (l:=s.data.toList) (by simpa using hi),e];simp
 have:=key s.size 0 [] (by omega);simpa[Ha]using this
def size_data(s:ByteArray):s.size=Z s.data.toList:=by cases s;simp[ByteArray.size]
def qhs{op:BinOp}{x y:ByteArray}(h:ft op x.data.toList y.data.toList=.ok v)(w:aF):(Op.stringOp op x y).run P w=.ok v w:=by
 unfold ft at h;split at h<;>simp only[Op.stringOp,toList_data,<-pU,<-MV]
 .cases hc:aO (Z x.data.toList+Z y.data.toList) 4611686018427387904 with
  |false=>rw[hc]at h;cases h
  |true=>
   rw[hc]at h;simp only[aJ,ay]at h;subst h;have hl:Z x.data.toList+Z y.data.toList<4611686018427387904:=by simpa[bZ]using hc
   rw[ax]
   .show Result.ok _ _=_;have:x++y=⟨⟨x.data.toList++y.data.toList⟩⟩:=by
     apply ByteArray.ext;apply m6;simp
    rw[this];rfl
   .rw[size_data,size_data];simp only[IntKind.max,IntKind.signed,IntKind.bits,bB];omega
 all_goals first
  |(simp only[ay]at h;subst h;rfl)
  |cases h
def qai{op:BinOp}{k:cS}{a b:Int}{t:au}(h:a_ op k a b=.ok v)(w:aF):(binOp op t (.int k a) (.int k b)).run P w=.ok v w:=by
 have hk:¬(k≠k):=λ h=>h rfl
 unfold a_ at h;split at h<;>simp only[binOp,ax hk]
 .simp only[ay]at h;subst h;rw[qj];rfl
 .simp only[ay]at h;subst h;rw[qj];rfl
 .simp only[ay]at h;subst h;rw[qj];rfl
 .exact NA h w
 .exact NA h w
 .exact Ey h w
 .exact Ey h w
 .exact Ey h w
 .exact Ey h w
 .simp only[ay]at h;subst h;rw[wW];rfl
 .simp only[ay]at h;subst h;rw[wW];rfl
 .simp only[ay]at h;subst h;rw[Ap];rfl
 .simp only[ay]at h;subst h;rw[Ap];show Result.ok _ _=_;congr 2;rw[qk];simp
 .simp only[ay]at h;subst h;rw[Ap];rfl
 .simp only[ay]at h;subst h;rw[Ap];show Result.ok _ _=_;congr 2;rw[qk];simp
 .cases h
 .cases h
end
section
def vn(k:Nat)(fn:Func):Prop:=
 fn.body=none/\(fn.name== "runtime.NumGoroutine")=false/\Extern.findNext fn=none/\
 match k with
 |1=>Extern.find fn=U Extern.AbiNoEscape.same
 |2=>Extern.find fn=U (Extern.SlicesOverlaps.overlaps fn.params fn.resultTypes)
 |3=>Extern.find fn=U (Extern.BytealgMakeNoZero.makeNoZero fn.params fn.resultTypes)
 |4=>Extern.find fn=U Extern.MapsClone.clone
 |5=>Extern.find fn=(Extern.MathBitsCarry.rows[0]?).map (·.2)
 |6=>Extern.find fn=U Extern.BytealgCount.count
 |7=>Extern.find fn=U Extern.BytealgIndexByte.indexByte
 |_=>False
def eG(P:cI)(f:FuncId)(h:List I->Mem->R (I×Mem)):Prop:=
 ∀(args:List I) (A:Mem) (v:I) (A':Mem),h args A=.ok (v,A')->A.next<=A'.next/\∀(ι:bj) (w:aF) (args':Array I),Rel ι A w->bI ι args args'.toList->eA ι A A'->
  ∀(fr:Frame) (cs:List Frame),∃ι' w' v',Steps P (lone (Frame.enter P f args' .normal) (fr::cs) w) (lone (fr.finish v') cs w')/\VR ι' v v'/\Rel ι' A' w'/\bY ι A w ι' A' w'
structure dO (tb:aN):Prop where
 ty:∀t i,tb.ty.get t=U i->tb.P.info? t=U i
 fn:∀f fn,tb.fn.get f=U fn->tb.P.funcs[f]?=U fn
 mixed:tb.P.follows .mixedOrders=ae
 ex:∀f k fn,tb.ex.get f=U k->tb.fn.get f=U fn->vn k fn
 hk:∀f h,tb.hk.get f=U h->eG tb.P f h
variable {tb:aN}(ok:dO tb)
include ok
def rZ{t:au}{i:TypeInfo}(h:tb.ty.get t=U i)(w:aF):(typeInfo t).run tb.P w=.ok i w:=by
 simp[typeInfo,ok.ty t i h]
def Um{t:au}{d:TypeDesc}(h:tb.aB t=U d):tb.P.underlying t=U d:=by
 unfold aN.aB at h;unfold Program.underlying;cases hi:tb.ty.get t with
 |none=>rw[hi]at h;cases h
 |some i=>
  rw[hi]at h;rw[ok.ty t i hi];obtain⟨desc,str,size,bytes,hp,al,fa,zero,cmp,ms⟩:=i;simp only at h⊢;cases desc<;>simp only at h⊢<;>try (exact h)
  rename_i nm u;cases hu:tb.ty.get u with
  |none=>rw[hu]at h;cases h
  |some j=>
   rw[hu]at h;rw[ok.ty u j hu];exact h
def bO{t:au}{d:TypeDesc}(h:tb.aB t=U d)(w:aF):(underlying t).run tb.P w=.ok d w:=by
 simp[underlying,Um ok h]
def jz{t:au}{n:Nat}(h:bk tb t=.ok n)(w:aF):(sizeOf t).run tb.P w=.ok n w:=by
 unfold bk at h;cases hi:tb.ty.get t with
 |none=>rw[hi]at h;cases h
 |some i=>
  rw[hi]at h;simp only[ay]at h;subst h;simp[sizeOf,rZ ok hi]
def FO{t:au}{d:TypeDesc}(h:tb.aB t=U d)(w:aF):(isAgg t).run tb.P w=.ok (en d) w:=by
 simp only[isAgg,aM,bO ok h,aP];cases d<;>rfl
omit ok in
def Bn {t:au} {v:I} (h:dj tb t=.ok v):∃i,tb.ty.get t=U i/\i.zero=U v/\∀ι,VR ι v v:=by
 unfold dj at h;cases hi:tb.ty.get t with
 |none=>rw[hi]at h;cases h
 |some i=>
  rw[hi]at h;simp only at h;cases hz:i.zero with
  |none=>rw[hz]at h;cases h
  |some z=>
   rw[hz]at h;simp only at h;cases hc:rX 3 z with
   |false=>rw[hc]at h;cases h
   |true=>
    rw[hc]at h;simp only[aJ,ay]at h;subst h;exact⟨i,rfl,hz,λ ι=>E6 3 z hc⟩
def DM{t:au}(h:dj tb t=.ok v)(w:aF):(zeroValue t).run tb.P w=.ok v w:=by
 obtain⟨i,hi,hz,_⟩:=Bn h;simp[zeroValue,rZ ok hi,hz]
omit ok
variable {ι:bj}{n:Nat}{τ:T I}{a:Act}
def dh{x:bM}(h:ev τ x=.ok v)(ht:TR ι n τ a.tmps):VR ι v (a.eval x):=by
 cases x with
 |tmp i=>
  simp only[ev]at h;split at h
  .rename_i u hg;simp only[ay]at h;subst h;obtain⟨v',e,r⟩:=ht.2 i u hg;simp only[Act.eval,LN,e];exact r
  .cases h
 |const c=>
  simp only[ev]at h;cases hc:rX 3 c with
  |false=>rw[hc]at h;cases h
  |true=>
   rw[hc]at h;simp only[aJ,ay]at h;subst h;exact E6 3 c hc
 |global g=>cases h
 |func f=>
  simp only[ev,ay]at h;subst h;exact .func trivial .nil .nil
theorem yI:∀{xs:List bM} {vs:List I},fk τ xs=.ok vs->TR ι n τ a.tmps->bI ι vs (xs.map a.eval)
 | [],vs,h,_=>by simp only[fk,ay]at h;subst h;exact .nil
 |x::xs,vs,h,ht=>by
  unfold fk at h;obtain⟨v,hv,h⟩:=R.aC h;obtain⟨us,hu,h⟩:=R.aC h;simp only[ay]at h;subst h;exact .cons (dh hv ht) (yI hu ht)
inductive rI (ι:bj):Option I->Option I->Prop
 |none:rI ι V V
 |some {v v':I} (h:VR ι v v'):rI ι (U v) (U v')
def Fh{x:Option bM}{v:Option I}(h:mI τ x=.ok v)(ht:TR ι n τ a.tmps):rI ι v (x.map a.eval):=by
 cases x with
 |none=>simp only[mI,ay]at h;subst h;exact .none
 |some x=>
  unfold mI at h;obtain⟨v,hv,h⟩:=R.aC h;simp only[ay]at h;subst h;exact .some (dh hv ht)
inductive ym (ι:bj):List (Nat×I)->List (Nat×I)->Prop
 |nil:ym ι [] []
 |cons {i:Nat} {v v':I} {l l':List (Nat×I)} (h:VR ι v v') (ht:ym ι l l'):ym ι ((i,v)::l) ((i,v')::l')
theorem Jf:∀{xs:List (Nat×bM)} {vs:List (Nat×I)},oI τ xs=.ok vs->TR ι n τ a.tmps->ym ι vs (xs.map λ(i,x)=>(i,a.eval x))
 | [],vs,h,_=>by simp only[oI,ay]at h;subst h;exact .nil
 |(i,x)::xs,vs,h,ht=>by
  unfold oI at h;obtain⟨v,hv,h⟩:=R.aC h;obtain⟨us,hu,h⟩:=R.aC h;simp only[ay]at h;subst h;exact .cons (dh hv ht) (Jf hu ht)
variable {m:Nat}
def AE(h:jx v=.ok m)(hv:VR ι v v'):∃k,v=.int k (.ofNat m)/\v'=.int k (.ofNat m):=by
 unfold jx at h;split at h
 .simp only[ay]at h;subst h;cases hv;exact⟨_,rfl,rfl⟩
 .cases h
def qa2{op:BinOp}{t:au}{m':Nat}{y:Int}(h:J3 op m y=.ok v)(hm:m<=m')(hb:m'<2^63):
 ∃v',(∀(P:cI) (w:aF),(binOp op t (.int .i64 (.ofNat m')) (.int .i64 y)).run P w=.ok v' w)/\VR ι v v':=by
 unfold J3 at h;split at h
 .rename_i k;cases hc:av k m with
  |false=>rw[hc]at h;cases h
  |true=>
   rw[hc]at h;simp only[aJ,ay]at h;subst h;have:=jD hc;refine⟨.bool ag,λ P w=>?_,.bool _⟩;simp only[binOp,ne_eq,not_true_eq_false,bg,Op.intCmp];show Result.ok _ _=_;congr 2;simp only[decide_eq_false_iff_not,iu];omega
 .rename_i k;cases hc:av k m with
  |false=>rw[hc]at h;cases h
  |true=>
   rw[hc]at h;simp only[aJ,ay]at h;subst h;have:=jD hc;refine⟨.bool ae,λ P w=>?_,.bool _⟩;simp only[binOp,ne_eq,not_true_eq_false,bg,Op.intCmp];show Result.ok _ _=_;congr 2;simp only[decide_eq_true_eq,iu];omega
 .rename_i k;cases hc:av k m with
  |false=>rw[hc]at h;cases h
  |true=>
   rw[hc]at h;simp only[aJ,ay]at h;subst h;have:=jD hc;refine⟨.int .i64 (.ofNat (m'-k)),λ P w=>?_,.least (by omega) (by omega)⟩;simp only[binOp,ne_eq,not_true_eq_false,bg,Op.intArith];show Result.ok _ _=_;have e:IntKind.i64.wrap (cK m'-cK k)=cK (m'-k):=by
    have e1:cK m'-cK k=cK (m'-k):=by simp only[iu];omega
    rw[e1];refine xG ?_ ?_<;>simp only[IntKind.min,IntKind.max,IntKind.signed,IntKind.bits,bB,iu]<;>omega
   rw[e]
 .cases h
def qa3{op:BinOp}{t:au}{m':Nat}{y:Int}(h:J4 op y m=.ok v)(hm:m<=m'):
 ∃v',(∀(P:cI) (w:aF),(binOp op t (.int .i64 y) (.int .i64 (.ofNat m'))).run P w=.ok v' w)/\VR ι v v':=by
 unfold J4 at h;split at h
 .rename_i k;cases hc:av k m with
  |false=>rw[hc]at h;cases h
  |true=>
   rw[hc]at h;simp only[aJ,ay]at h;subst h;have:=jD hc;refine⟨.bool ag,λ P w=>?_,.bool _⟩;simp only[binOp,ne_eq,not_true_eq_false,bg,Op.intCmp];show Result.ok _ _=_;congr 2;simp only[decide_eq_false_iff_not,iu];omega
 .rename_i k;cases hc:av k m with
  |false=>rw[hc]at h;cases h
  |true=>
   rw[hc]at h;simp only[aJ,ay]at h;subst h;have:=jD hc;refine⟨.bool ae,λ P w=>?_,.bool _⟩;simp only[binOp,ne_eq,not_true_eq_false,bg,Op.intCmp];show Result.ok _ _=_;congr 2;simp only[decide_eq_true_eq,iu];omega
 .cases h
def yp:I->Prop
 |.bool _|.int _ _|.string _=>True
 |_=>False
def yp.vr(h:yp v):VR ι v v:=by
 cases v<;>first|(constructor;done)|exact h.elim
def Ta{op:BinOp}{k:cS}{x y:Int}(h:Ds op k x y=.ok v):yp v:=by
 unfold Ds at h;split at h
 .simp only[ay]at h;subst h;trivial
 .rename_i b;cases hb:aO b k.bits<;>rw[hb]at h<;>simp only[aJ,bJ,ay]at h<;>subst h<;>trivial
 .cases h
def VT{op:BinOp}{k:cS}{x y:Int}(h:Cg op k x y=.ok v):yp v:=by
 unfold Cg at h;split at h
 iterate 3
  .rename_i p q;cases hb:(di k (cK p)&&di k (cK q))<;>rw[hb]at h<;>simp only[aJ,bJ,ay,reduceCtorEq]at h;subst h;trivial
 .rename_i p q;cases hb:(di k (cK p)&&di k (Int.negSucc q))<;>rw[hb]at h<;>simp only[aJ,bJ,ay,reduceCtorEq]at h;subst h;trivial
 .cases h
def Yk{op:BinOp}{k:cS}{x y:Int}(h:Cx op k x y=.ok v):yp v:=by
 unfold Cx at h;split at h
 .simp only[ay]at h;subst h;trivial
 .simp only[ay]at h;subst h;trivial
 .cases hb:kV y 0<;>rw[hb]at h<;>simp only[aJ,bJ,ay,reduceCtorEq]at h;subst h;trivial
 .cases hb:kV y 0<;>rw[hb]at h<;>simp only[aJ,bJ,ay,reduceCtorEq]at h;subst h;trivial
 .cases h
def qah{op:BinOp}{k:cS}{x y:Int}(h:a_ op k x y=.ok v):yp v:=by
 unfold a_ at h;split at h<;>first
  |(simp only[ay]at h;subst h;trivial)
  |exact Yk h
  |exact VT h
  |cases h
def qhr{op:BinOp}{x y:List UInt8}(h:ft op x y=.ok v):yp v:=by
 unfold ft at h;split at h
 .cases hb:aO (Z x+Z y) 4611686018427387904<;>rw[hb]at h<;>simp only[aJ,bJ,ay,reduceCtorEq]at h;subst h;trivial
 all_goals first
  |(simp only[ay]at h;subst h;trivial)
  |cases h
include ok in
def NU {t:au} (hd:tb.aB t=U .bool) (a b:Bool) (w:aF):(Op.equal t (.bool a) (.bool b)).run tb.P w=.ok (a==b) w:=by
 unfold Op.equal Op.maxDepth;rw[Op.equalIn];simp only[aM,bO ok hd,aP];rfl
include ok in
def VP {op:BinOp} {t:au} {x x' y y' v:I} (h:ij op (tb.aB t) x y=.ok v) (hx:VR ι x x') (hy:VR ι y y'):
 ∃v',(∀w:aF,(binOp op t x' y').run tb.P w=.ok v' w)/\VR ι v v':=by
 unfold ij at h;split at h
 .cases hx with
  |least hm hb=>cases hy;obtain⟨v',e,r⟩:=qa2 (ι:=ι) (t:=t) h hm hb;exact⟨v',λ w=>e _ w,r⟩
 .cases hx;cases hy with
  |least hm hb=>obtain⟨v',e,r⟩:=qa3 (ι:=ι) (t:=t) h hm;exact⟨v',λ w=>e _ w,r⟩
 .cases hx;cases hy;rename_i k a k' b;split at h
  .exact⟨v,λ w=>Tb (P:=tb.P) (yk:=k') h w,(Ta h).vr⟩
  .exact⟨v,λ w=>Tb (P:=tb.P) (yk:=k') h w,(Ta h).vr⟩
  .cases hk:jv k k' with
   |false=>rw[hk]at h;cases h
   |true=>
    rw[hk]at h;obtain rfl:=CY hk;simp only[aJ]at h;exact⟨v,λ w=>qai h w,(qah h).vr⟩
 .cases hx;cases hy;refine⟨v,λ w=>?_,(qhr h).vr⟩;have:=qhs (P:=tb.P) h w;rw[<-this];cases op<;>rfl
 .rename_i a b;cases hx;cases hy;split at h
  .rename_i hd;simp only[ay]at h;subst h;refine⟨.bool (a==b),λ w=>?_,?_⟩
   .show(do pure (Value.bool (<-Op.equal t (.bool a) (.bool b))):Sem I).run tb.P w=_;simp only[aM,NU ok hd,aP];rfl
   .cases a<;>cases b<;>exact .bool _
  .rename_i hd;simp only[ay]at h;subst h;refine⟨.bool (!(a==b)),λ w=>?_,?_⟩
   .show(do pure (Value.bool (!(<-Op.equal t (.bool a) (.bool b)))):Sem I).run tb.P w=_;simp only[aM,NU ok hd,aP];rfl
   .cases a<;>cases b<;>exact .bool _
  .cases h
 .cases h
end
section
variable {tb:aN}(ok:dO tb){ι:bj}
variable {x' y:I}
def Yy{op:BinOp}{d:Option TypeDesc}{t:au}{ox oy:bM}{x y':I}(h:ij op d x y=.ok v)(hx:VR ι x x')(hy:VR ι y y')(P:cI)(w:aF):
 (eqGuard op t ox oy x' y').run P w=.ok () w:=by
 have key:∀(a b:I),(∀p q,¬(a=.nilIface/\b=.nilIface)/\¬(a=.agg p/\b=.agg q))->(eqGuard op t ox oy a b).run P w=.ok () w:=by
  intro a b hab;unfold eqGuard;cases op<;>first
   |rfl
   |(cases a<;>first
    |rfl
    |(cases b<;>first
     |rfl
     |exact aU ⟨rfl,rfl⟩ (hab #[] #[]).1
     |exact aU ⟨rfl,rfl⟩ (hab _ _).2))
 refine key _ _ λ p q=>?_
 unfold ij at h;split at h
 .cases hx with
  |least hm hb=>cases hy;exact⟨by simp,by simp⟩
 .cases hx;exact⟨by simp,by simp⟩
 .cases hx;exact⟨by simp,by simp⟩
 .cases hx;exact⟨by simp,by simp⟩
 .cases hx;exact⟨by simp,by simp⟩
 .cases h
def UE{k:cS}(n:Int):k.wrap ((BitVec.ofInt k.bits (-1)^^^BitVec.ofInt k.bits n).toNat:Int)=k.wrap (-1-n):=by
 have hM:(0:Int)<2^k.bits:=Int.pow_pos (by omega);have e1:BitVec.ofInt k.bits (-1)=BitVec.allOnes k.bits:=by
  apply BitVec.eq_of_toInt_eq;rw[BitVec.toInt_ofInt,BitVec.toInt_allOnes];cases k<;>decide
 have e2:((BitVec.ofInt k.bits (-1)^^^BitVec.ofInt k.bits n).toNat:Int)=2^k.bits-1-n % 2^k.bits:=by
  rw[e1,BitVec.xor_comm,BitVec.xor_allOnes,BitVec.toNat_not,BitVec.toNat_ofInt];have h1:=Int.emod_nonneg n (b:=2^k.bits) (by omega);have h2:=Int.emod_lt_of_pos n hM;have h3:((2^k.bits:Nat):Int)=2^k.bits:=by push_cast;rfl
  rw[h3];omega
 rw[e2];have e3:(2^k.bits-1-n % 2^k.bits:Int) % 2^k.bits=(-1-n) % 2^k.bits:=by
  have h:=Int.mul_ediv_add_emod n (2^k.bits);have:(2^k.bits-1-n % 2^k.bits:Int)=(-1-n)+2^k.bits*(n/2^k.bits+1):=by
   rw[Int.mul_add,Int.mul_one];omega
  rw[this,Int.add_mul_emod_self_left]
 unfold IntKind.wrap;simp only[e3]
def qh2{op:UnOp}{x:I}(h:Be op x=.ok v)(hx:VR ι x x'):∃v',(∀(P:cI) (w:aF),(Op.unary op x').run P w=.ok v' w)/\VR ι v v':=by
 unfold Be at h;split at h
 .cases hx;simp only[ay]at h;subst h;refine⟨_,λ P w=>?_,.int _ _⟩;rw[qj];rfl
 .cases hx;rename_i k n;cases hs:k.signed with
  |true=>
   rw[hs]at h;simp only[aJ,ay]at h;subst h;refine⟨_,λ P w=>?_,.int _ _⟩;simp only[Op.unary,hs,bB,Op.intBits];show Result.ok _ _=_;rw[qj,show Int.negSucc n=-1-cK n by simp only[iu];omega,<-UE]
  |false=>
   rw[hs]at h;cases hk:di k (.ofNat n)with
   |false=>rw[hk]at h;cases h
   |true=>
    rw[hk]at h;simp only[aJ,bJ,ay]at h;subst h;refine⟨_,λ P w=>?_,.int _ _⟩;simp only[Op.unary,hs,dR,bg,Op.intBits];show Result.ok _ _=_;obtain⟨h1,h2⟩:=Px hk;have hmax:k.max=2^k.bits-1:=by simp[IntKind.max,hs]
    have hpos:0<2^k.bits:=Nat.pow_pos (by omega);have hn:n<2^k.bits:=by
     rw[hmax]at h2;have:((2^k.bits:Nat):Int)=2^k.bits:=by push_cast;rfl
     simp only[iu]at h2;omega
    have e1:BitVec.ofInt k.bits k.max=BitVec.allOnes k.bits:=by
     rw[hmax];have:(2^k.bits-1:Int)=((2^k.bits-1:Nat):Int):=by
      rw[Int.natCast_sub (by omega)];push_cast;rfl
     rw[this,BitVec.ofInt_natCast];apply BitVec.eq_of_toNat_eq;rw[BitVec.toNat_ofNat,BitVec.toNat_allOnes,rm (by omega)]
    have e2:BitVec.ofInt k.bits (cK n)=BitVec.ofNat k.bits n:=BitVec.ofInt_natCast ..;rw[e1,e2,BitVec.xor_comm,BitVec.xor_allOnes,BitVec.toNat_not,BitVec.toNat_ofNat,rm hn];have e3:k.wrap (cK (2^k.bits-1-n))=cK (2^k.bits-1-n):=by
     refine xG ?_ ?_
     .have:k.min=0:=by simp[IntKind.min,hs]
      rw[this];exact zq _
     .rw[hmax];have:((2^k.bits:Nat):Int)=2^k.bits:=by push_cast;rfl
      simp only[iu];omega
    exact cX (λ z=>Result.ok (Value.int k z) w) e3
 .cases hx;rename_i k n;cases hs:k.signed with
  |false=>rw[hs]at h;cases h
  |true=>
   rw[hs]at h;simp only[aJ,ay]at h;subst h;refine⟨_,λ P w=>?_,.int _ _⟩;simp only[Op.unary,hs,bB,Op.intBits];show Result.ok _ _=_;rw[qj,show cK n=-1-Int.negSucc n by simp only[iu];omega,<-UE]
 .cases hx;simp only[ay]at h;subst h;exact⟨_,λ P w=>rfl,.bool _⟩
 .cases h
variable {m:Nat}
def uY{x:I}{k:cS}{y:Nat}{c:BoundsCode}(hx:x=.int k (.ofNat m))(hm:m<=y)(P:cI)(w:aF):
 (Instr.sliceBound x y c).run P w=.ok m w:=by
 subst hx;simp only[Instr.sliceBound,asIntOf,aM,a6,aP];rw[aA ⟨zq _,by simp only[iu];omega⟩];rfl
def tj{v v':Option I}{most:Nat}(h:bound v d most=.ok m)(hv:rI ι v v'):
 (v=V/\v'=V/\m=d)\/(∃x k,v=U x/\v'=U (.int k (.ofNat m))/\m<=most):=by
 cases hv with
 |none=>simp only[bound,ay]at h;exact .inl ⟨rfl,rfl,h.symm⟩
 |some hx=>
  simp only[bound]at h;split at h
  .rename_i n hn;obtain⟨k,rfl,rfl⟩:=AE hn hx;cases hb:av n most with
   |false=>rw[hb]at h;cases h
   |true=>
    rw[hb]at h;simp only[aJ,ay]at h;subst h;exact .inr ⟨_,k,rfl,rfl,jD hb⟩
  .cases h
variable {cap:Nat}
def Lf{lo lo' hi hi':Option I}{len cap' h l:Nat}{isS:Bool}(hh:bound hi len cap=.ok h)(hl:bound lo 0 h=.ok l)(vl:rI ι lo lo')(vh:rI ι hi hi')
 (hc:cap<=cap')(P:cI)(w:aF):(Instr.sliceBounds isS len cap' lo' hi' V).run P w=.ok (l,h,cap') w:=by
 unfold Instr.sliceBounds;rcases tj hh vh with⟨_,rfl,rfl⟩|⟨_,k,_,rfl,hm⟩<;>rcases tj hl vl with⟨_,rfl,rfl⟩|⟨_,k2,_,rfl,hm2⟩
 .rfl
 .simp only[aM,a6,aP,uY rfl hm2,x5,dR,bg]
 .simp only[aM,a6,aP,uY rfl (dm hm hc)]
 .simp only[aM,a6,aP,uY rfl (dm hm hc),uY rfl hm2,x5,dR,bg]
def qgT{lo lo':Option I}{hi hi' mx mx':I}{len cap' h l:Nat}{isS:Bool}(hm:bound (U mx) 0 cap=.ok m)(hh:bound (U hi) 0 m=.ok h)(hl:bound lo 0 h=.ok l)
 (vl:rI ι lo lo')(vh:VR ι hi hi')(vm:VR ι mx mx')(hc:cap<=cap')(P:cI)(w:aF):
 (Instr.sliceBounds isS len cap' lo' (U hi') (U mx')).run P w=.ok (l,h,m) w:=by
 unfold Instr.sliceBounds;rcases tj hm (.some vm)with⟨h1,_,_⟩|⟨_,k,_,h1,hm1⟩
 .cases h1
 .cases h1;rcases tj hh (.some vh)with⟨h1,_,_⟩|⟨_,k1,_,h1,hm2⟩
  .cases h1
  .cases h1;rcases tj hl vl with⟨_,rfl,rfl⟩|⟨_,k2,_,rfl,hm3⟩
   .simp only[aM,a6,aP,uY rfl (dm hm1 hc),uY rfl hm2]
   .simp only[aM,a6,aP,uY rfl (dm hm1 hc),uY rfl hm2,uY rfl hm3]
def UP{a:Addr}(h:a.spot=V)(n:Nat):a.add n=g_ a n:=by
 obtain⟨b,o,s⟩:=a;cases h;unfold Addr.add g_;split
 .rename_i h;subst h;rfl
 .rfl
def om(b o n:Nat):(⟨b,o,V⟩:Addr).add n=⟨b,o+n,V⟩:=UP rfl n
def Mb(b o s n:Nat):(U (⟨b,o+s,V⟩:Addr)).map (·.add n)=U ⟨b,o+n+s,V⟩:=by
 simp only[gX,om];rw[xV]
variable {c:Nat}
def XV(h:ed c=ae):bV c=c/2:=by unfold bV;rw[h];rfl
def wF(n:Nat):ed (2*n)=ae:=by
 unfold ed;show aL ((2*n) % 2) 0=ae;rw[Nat.mul_mod_right];rfl
def tz(n:Nat):bV (2*n)=n:=by rw[XV (wF n)];omega
def kU(n e:Nat):ed (cP n e)=ag:=by unfold ed cP;show aL ((2*(n*65536+e)+1) % 2) 0=ag;rw[show(2*(n*65536+e)+1) % 2=1 by omega];rfl
def iW{e:Nat}(h:e<65536):bV (cP n e)=n:=by
 unfold bV;rw[kU];show(2*(n*65536+e)+1)/2/65536=n;omega
def mH{e:Nat}(h:e<65536):hY (cP n e)=e:=by
 unfold hY cP;show(2*(n*65536+e)+1)/2 % 65536=e;omega
def Nh(c:Nat):hY c<65536:=jV _ (by omega)
def z6(c l:Nat):ed (p_ c l)=ed c:=by
 unfold p_;cases h:ed c with
 |true=>exact wF _
 |false=>exact kU ..
def wE(c l:Nat):bV (p_ c l)=bV c-l:=by
 unfold p_;cases h:ed c with
 |true=>exact tz _
 |false=>exact iW (Nh c)
def EW{l:Nat}(h:ed c=ag):hY (p_ c l)=hY c:=by
 unfold p_;rw[h];exact mH (Nh c)
def extract_eq(s:ByteArray)(l h:Nat):s.extract l h=⟨⟨(s.data.toList.take h).drop l⟩⟩:=by
 apply ByteArray.ext;apply m6;simp[ByteArray.data_extract,List.drop_take]
include ok in
def qgU {t:au} {x x' v:I} {lo lo' hi hi' mx mx':Option I} (h:iL tb t x lo hi mx=.ok v) (hx:VR ι x x') (vl:rI ι lo lo') (vh:rI ι hi hi') (vm:rI ι mx mx'):
 ∃v',(∀w:aF,(Instr.sliceAt t x' lo' hi' mx').run tb.P w=.ok v' w)/\VR ι v v':=by
 unfold iL at h;split at h
 ·
  rename_i s hd;cases hx;cases vm with
  |some _=>cases h
  |none=>
   simp only at h;obtain⟨hh,e1,h0⟩:=R.aC h;clear h;have h:=h0;clear h0;obtain⟨l,e2,h0⟩:=R.aC h;clear h;have h:=h0;clear h0;simp only[ay]at h;subst h;refine⟨.string (s.extract l hh),λ w=>?_,?_⟩
   .simp only[Instr.sliceAt,Instr.slice,aM,bO ok hd,aP];have:=Lf (isS:=ag) e1 e2 vl vh (aI _) tb.P w;rw[<-size_data]at this;simp only[x5,dR,bg,aM,a6,aP,this]
   .rw[extract_eq];exact .string _
 ·
  rename_i elem a len cap hd;cases vm with
  |none=>
   simp only at h;obtain⟨hh,e1,h0⟩:=R.aC h;clear h;have h:=h0;clear h0;obtain⟨l,e2,h0⟩:=R.aC h;clear h;have h:=h0;clear h0;obtain⟨size,e3,h0⟩:=R.aC h;clear h;have h:=h0;clear h0;have run:∀(a':Option Addr) (cap':Nat),bV cap<=cap'->∀w:aF,(Instr.sliceAt t (.slice a' len cap') lo' hi' V).run tb.P w=
    .ok (.slice (if cap'=l then a' else a'.map (·.add (l*size))) (hh-l) (cap'-l)) w:=by
    intro a' cap' hc w;simp only[Instr.sliceAt,Instr.slice,aM,bO ok hd,aP,Lf (isS:=ae) e1 e2 vl vh hc,jz ok e3,a6]
   have bh:hh<=max len (bV cap)/\(hh<=len\/hh<=bV cap):=by
    rcases tj e1 vh with⟨_,_,rfl⟩|⟨_,_,_,_,hm⟩
    .exact⟨Nat.le_max_left ..,.inl (aI _)⟩
    .exact⟨dm hm (Nat.le_max_right ..),.inr hm⟩
   have bl:l<=hh:=by
    rcases tj e2 vl with⟨_,_,rfl⟩|⟨_,_,_,_,hm⟩
    .omega
    .exact hm
   cases hx with
   |slN=>
    simp only[ay]at h;subst h;have h0:bV 0=0:=rfl;refine⟨.slice V 0 0,λ w=>?_,.slN⟩;rw[run V 0 (by rw[h0];omega) w];have:hh=0:=by rw[h0]at bh;omega
    subst this;simp
   |sl hl hk=>
    rename_i b o lc;simp only[hk,tR]at h;cases hb:aL (bV cap) l with
    |true=>
     rw[hb]at h;simp only[aJ,ay]at h;subst h;have hbl:=beq_true hb;refine⟨_,run _ _ (aI _),?_⟩;rw[aA hbl,show bV cap-l=0 by omega];exact VR.sl hl rfl
    |false=>
     have hbl:=beq_false hb;rw[hb]at h;simp only[bJ,lY,hk,aJ,ay]at h;subst h;refine⟨_,run _ _ (aI _),?_⟩;rw[ax hbl];rw[Mb,<-wE];exact VR.sl hl (by rw[z6];exact hk)
   |slX hl hk hc hsz ho hb hlen=>
    rename_i b o o' cap' lc;simp only[hk,Bo,bJ]at h;cases hf:lY cap size with
    |false=>rw[hf]at h;cases h
    |true=>
     rw[hf]at h;simp only[aJ,ay]at h;subst h;have hsize:hY cap=size:=by
      unfold lY at hf;rw[hk]at hf;exact beq_true hf
     refine⟨_,run _ _ hc,?_⟩;have hhc:hh<=bV cap:=by omega
     by_cases hcl:cap'=l
     .rw[aA hcl];have h0:bV cap-l=0:=by omega
      refine VR.slX hl (by rw[z6];exact hk) (by rw[wE];omega) ?_ (by omega) (by omega) (by rw[wE];omega);rw[EW hk,show cap'-l=0 by omega];have:=dm (Nat.le_add_right o' (cap'*hY cap)) hsz;omega
     .rw[ax hcl];have e:(U (⟨lc.blk,o',V⟩:Addr)).map (·.add (l*size))=U ⟨lc.blk,o'+l*size,V⟩:=by
       simp only[gX,om]
      rw[e];refine VR.slX hl (by rw[z6];exact hk) (by rw[wE];omega) ?_ ?_ (by omega) (by rw[wE];omega)
      .rw[EW hk,hsize];rw[hsize]at hsz;have hlc:l<=cap':=by omega
       have:(cap'-l)*size+l*size=cap'*size:=by rw[<-qo];congr 1;omega
       omega
      .intro hp;have:=ho (by omega);show o'+l*size=o+l*size+lc.sh;omega
  |some hv=>
   rename_i mx0 mx1;simp only at h;obtain⟨m,e0,h0⟩:=R.aC h;clear h;have h:=h0;clear h0;obtain⟨hh,e1,h0⟩:=R.aC h;clear h;have h:=h0;clear h0;obtain⟨l,e2,h0⟩:=R.aC h;clear h;have h:=h0;clear h0;obtain⟨size,e3,h0⟩:=R.aC h;clear h;have h:=h0;clear h0;cases vh with
   |none=>simp only at h;cases h
   |some vhh=>
    rename_i hi0 hi1;have run:∀(a':Option Addr) (cap':Nat),bV cap<=cap'->∀w:aF,(Instr.sliceAt t (.slice a' len cap') lo' (U hi1) (U mx1)).run tb.P w=
     .ok (.slice (if m=l then a' else a'.map (·.add (l*size))) (hh-l) (m-l)) w:=by
     intro a' cap' hc w;simp only[Instr.sliceAt,Instr.slice,aM,bO ok hd,aP,qgT (isS:=ae) e0 e1 e2 vl vhh hv hc,jz ok e3,a6]
    have bl:l<=hh/\hh<=m/\m<=bV cap:=by
     rcases tj e0 (.some hv)with⟨h1,_,_⟩|⟨_,_,_,_,hm⟩
     .cases h1
     .rcases tj e1 (.some vhh)with⟨h1,_,_⟩|⟨_,_,_,_,hm1⟩
      .cases h1
      .rcases tj e2 vl with⟨_,_,rfl⟩|⟨_,_,_,_,hm2⟩<;>omega
    have fin:∀{b o o':Nat} {lc:Loc},ι b=U lc->(0<bV cap->o'=o+lc.sh)->o'=o+lc.sh\/m=0->
     (bif aL m l then(R.ok (Value.slice (U ⟨b,o,V⟩) (hh-l) 0))else .ok (.slice (U (g_ ⟨b,o,V⟩ (l*size))) (hh-l) (2*(m-l))))=.ok v->
     VR ι v (.slice (if m=l then U ⟨lc.blk,o',V⟩else(U (⟨lc.blk,o',V⟩:Addr)).map (·.add (l*size))) (hh-l) (m-l))\/o'≠o+lc.sh:=by
     intro b o o' lc hl _ hoo h;by_cases hne:o'=o+lc.sh
     .left;subst hne;by_cases hml:m=l
      .have hb:aL m l=ae:=by rw[qp];exact hml
       rw[hb]at h;simp only[aJ,ay]at h;subst h;rw[aA hml,show m-l=0 by omega];exact VR.sl hl rfl
      .have hb:aL m l=ag:=by
        cases hx:aL m l with
        |false=>rfl
        |true=>exact aU (beq_true hx) hml
       rw[hb]at h;simp only[bJ,ay]at h;subst h;rw[ax hml];rw[Mb];have:=VR.sl (ι:=ι) (b:=b) (o:=o+l*size) (len:=hh-l) (k:=2*(m-l)) hl (wF _);rw[tz]at this;exact this
     .exact .inr hne
    cases hx with
    |slN=>
     simp only[ay]at h;subst h;have h0:bV 0=0:=rfl;refine⟨.slice V 0 0,λ w=>?_,.slN⟩;rw[run V 0 (by rw[h0];omega) w];rw[h0]at bl;have e1:m=0:=by omega
     have e2:l=0:=by omega
     have e3:hh=0:=by omega
     subst e1 e2 e3;simp
    |sl hl hk=>
     refine⟨_,run _ _ (aI _),?_⟩;rcases fin hl (λ _=>rfl) (.inl rfl) (by simp only[hk,Bool.true_or,aJ]at h;exact h)with h1|h1
     .exact h1
     .exact aU rfl h1
    |slX hl hk hc hsz ho hb hlen=>
     rename_i b o o' cap' lc;simp only[hk,Bool.false_or]at h;cases hf:lY cap size&&aO 0 (bV cap)with
     |false=>rw[hf]at h;cases h
     |true=>
      rw[hf]at h;simp only[aJ]at h;simp only[dW]at hf;have h0:=jE hf.2;refine⟨_,run _ _ hc,?_⟩;rcases fin hl (λ hp=>ho (by omega)) (.inl (ho (by omega))) h with h1|h1
      .exact h1
      .exact aU (ho (by omega)) h1
 ·
  rename_i len elem a hd;cases hx with
  |ptr hl=>
   rename_i b o lc;cases vm with
   |some _=>simp only at h;cases h
   |none=>
    simp only at h;obtain⟨hh,e1,h0⟩:=R.aC h;clear h;have h:=h0;clear h0;obtain⟨l,e2,h0⟩:=R.aC h;clear h;have h:=h0;clear h0;obtain⟨size,e3,h0⟩:=R.aC h;clear h;have h:=h0;clear h0;have run:∀w:aF,(Instr.sliceAt t (.pointer (U ⟨lc.blk,o+lc.sh,V⟩)) lo' hi' V).run tb.P w=
     .ok (.slice (U (if len=l then⟨lc.blk,o+lc.sh,V⟩else(⟨lc.blk,o+lc.sh,V⟩:Addr).add (l*size))) (hh-l) (len-l)) w:=by
     intro w;simp only[Instr.sliceAt,Instr.sureAddr,aM,bO ok hd,aP,Lf (isS:=ag) e1 e2 vl vh (aI _),jz ok e3,a6]
    refine⟨_,run,?_⟩;cases hb:aL len l with
    |true=>
     rw[hb]at h;simp only[aJ,ay]at h;subst h;have hml:=beq_true hb;rw[aA hml,show len-l=0 by omega];exact VR.sl hl rfl
    |false=>
     rw[hb]at h;simp only[bJ,ay]at h;subst h;have hml:=beq_false hb;rw[ax hml,om];have:=VR.sl (ι:=ι) (b:=b) (o:=o+l*size) (len:=hh-l) (k:=2*(len-l)) hl (wF _);rw[tz,show o+l*size+lc.sh=o+lc.sh+l*size by omega]at this;exact this
 .cases h
end
section
variable {tb:aN}(ok:dO tb){ι:bj}
include ok in
def Zc {t:au} {x x' v:I} {i:Nat} (h:bK tb t x i=.ok v) (hx:VR ι x x'):
 ∃v',(∀w:aF,(Instr.fieldAt t x' i).run tb.P w=.ok v' w)/\VR ι v v':=by
 unfold bK at h;split at h
 .rename_i fs a hd;cases hx with
  |ptr hl=>
   rename_i b o lc;simp only at h;split at h
   .rename_i f _ hf;obtain⟨n,e1,h1⟩:=R.aC h;cases hb:aL n 0 with
    |true=>rw[hb]at h1;cases h1
    |false=>
     rw[hb]at h1;simp only[bJ,ay]at h1;subst h1;refine⟨.pointer (U ⟨lc.blk,o+f.offset+lc.sh,V⟩),λ w=>?_,?_⟩
     .have hf':fs[i]?=U f:=by rw[<-gp];exact hf
      simp only[Instr.fieldAt,aM,bO ok hd,aP,hf',Instr.sureAddr,a6,fieldPlace,jz ok e1,ax (beq_false hb),om];rw[xV]
     .exact VR.ptr (o:=o+f.offset) hl
   .cases h
 .cases h
include ok in
def Pz {t:au} {x x' y y' v:I} (h:eE tb t x y=.ok v) (hx:VR ι x x') (hy:VR ι y y'):
 ∃v',(∀w:aF,(Instr.indexAt t x' y').run tb.P w=.ok v' w)/\VR ι v v':=by
 unfold eE at h;split at h
 .cases h
 .rename_i i hi;obtain⟨k,rfl,rfl⟩:=AE hi hy;have h0:(0:Int)<=cK i:=zq _;split at h
  .rename_i len elem a hd;cases hx with
   |ptr hl=>
    rename_i b o lc;simp only at h;cases hb:aO i len with
    |false=>rw[hb]at h;cases h
    |true=>
     rw[hb]at h;simp only[aJ]at h;obtain⟨n,e1,h1⟩:=R.aC h;simp only[ay]at h1;subst h1;have hlt:=jE hb;refine⟨.pointer (U ⟨lc.blk,o+i*n+lc.sh,V⟩),λ w=>?_,VR.ptr (o:=o+i*n) hl⟩;have hc:(0:Int)<=cK i/\cK i<(len:Int):=⟨h0,by simp only[iu];omega⟩;simp only[Instr.indexAt,asIntOf,aM,a6,bO ok hd,aP,Instr.sureAddr,aA hc,jz ok e1,om];show Result.ok (Value.pointer (U ⟨lc.blk,o+lc.sh+i*n,V⟩)) w=_;rw[xV]
  .rename_i elem a len cap hd;have core:∀{b o o' cap':Nat} {lc:Loc},ι b=U lc->(i<len->o'=o+lc.sh)->a=⟨b,o,V⟩->
    ∃v',(∀w:aF,(Instr.indexAt t (.slice (U ⟨lc.blk,o',V⟩) len cap') (.int k (.ofNat i))).run tb.P w=.ok v' w)/\VR ι v v':=by
    intro b o o' cap' lc hl ho ha;subst ha;simp only at h;cases hb:aO i len with
    |false=>rw[hb]at h;cases h
    |true=>
     rw[hb]at h;simp only[aJ]at h;obtain⟨n,e1,h1⟩:=R.aC h;simp only[ay]at h1;subst h1;have hlt:=jE hb;refine⟨.pointer (U ⟨lc.blk,o+i*n+lc.sh,V⟩),λ w=>?_,VR.ptr (o:=o+i*n) hl⟩;have hc:(0:Int)<=cK i/\cK i<(len:Int):=⟨h0,by simp only[iu];omega⟩;simp only[Instr.indexAt,asIntOf,aM,a6,bO ok hd,aP,aA hc,jz ok e1,om];show Result.ok (Value.pointer (U ⟨lc.blk,o'+i*n,V⟩)) w=_;rw[ho hlt,xV]
   cases hx with
   |sl hl hk=>exact core hl (λ _=>rfl) rfl
   |slX hl hk hc hsz ho hb hlen=>exact core hl (λ hlt=>ho (by omega)) rfl
  .cases h
include ok in
def yU {t:au} {cs:List I} {cs':Array I} {off:Nat} {v:I} (h:nZ tb t cs off=.ok v) (hc:bI ι cs cs'.toList):
 ∃v',(∀w:aF,(part t cs' off).run tb.P w=.ok v' w)/\VR ι v v':=by
 unfold nZ at h;split at h
 .cases h
 .rename_i d hd;cases ha:en d with
  |true=>
   rw[ha]at h;simp only[aJ]at h;obtain⟨n,e1,h1⟩:=R.aC h;simp only[ay]at h1;subst h1;refine⟨.agg (cs'.extract off (off+n)),λ w=>?_,?_⟩
   .simp only[part,aM,FO ok hd,ha,aP,bB,jz ok e1,a6]
   .refine .agg ?_;have:(cs'.extract off (off+n)).toList=(cs'.toList.drop off).take n:=by
     simp[Array.toList_extract,List.extract_eq_take_drop]
    rw[this];exact(hc.drop off).take n
  |false=>
   rw[ha]at h;simp only[bJ]at h;split at h
   .rename_i x hx;simp only[ay]at h;subst h;obtain⟨x',e,r⟩:=hc.get _ _ hx;have e':cs'[off]?=U x':=by rw[<-gp];exact e
    refine⟨x',λ w=>?_,r⟩;simp only[part,aM,FO ok hd,ha,aP,dR,bg,e',a6]
   .cases h
include ok in
def Zd {t:au} {x x' v:I} {i:Nat} (h:Ag tb t x i=.ok v) (hx:VR ι x x'):
 ∃v',(∀w:aF,(Instr.field t x' i).run tb.P w=.ok v' w)/\VR ι v v':=by
 unfold Ag at h;split at h
 .rename_i fs cs hd;cases hx with
  |agg hc=>
   split at h
   .rename_i f hf;obtain⟨v',e,r⟩:=yU ok h hc;refine⟨v',λ w=>?_,r⟩;have hf':fs[i]?=U f:=by rw[<-gp];exact hf
    simp only[Instr.field,aM,bO ok hd,aP,hf',asAgg,a6,e]
   .cases h
 .cases h
include ok in
def qae {t:au} {x x' y y' v:I} (h:uL tb t x y=.ok v) (hx:VR ι x x') (hy:VR ι y y'):
 ∃v',(∀w:aF,(Instr.index t x' y').run tb.P w=.ok v' w)/\VR ι v v':=by
 unfold uL at h;split at h
 .cases h
 .rename_i i hi;obtain⟨k,rfl,rfl⟩:=AE hi hy;have h0:(0:Int)<=cK i:=zq _;split at h
  .rename_i len elem cs hd;cases hx with
   |agg hcs=>
    cases hb:aO i len with
    |false=>rw[hb]at h;cases h
    |true=>
     rw[hb]at h;simp only[aJ]at h;obtain⟨n,e1,h1⟩:=R.aC h;obtain⟨v',e,r⟩:=yU ok h1 hcs;have hlt:=jE hb;have hc:(0:Int)<=cK i/\cK i<(len:Int):=⟨h0,by simp only[iu];omega⟩;refine⟨v',λ w=>?_,r⟩;simp only[Instr.index,asIntOf,aM,a6,bO ok hd,aP,aA hc,jz ok e1];exact e w
  .rename_i s hd;cases hx;split at h
   .rename_i b hb;simp only[ay]at h;subst h;refine⟨_,λ w=>?_,.int _ _⟩;have hs:s[(cK i).toNat]?=U b:=by
     show s[i]?=U b;have hlt:i<Z s.data.toList:=by
      rcases ec i (Z s.data.toList)with h|h
      .exact h
      .rw[ky h]at hb;cases hb
     have hlt':i<s.size:=by rw[size_data];exact hlt
     rw[getElem?_pos s i hlt'];rw[aZ hlt]at hb;rw[<-hb];rfl
    simp only[Instr.index,asIntOf,aM,a6,bO ok hd,aP,aA h0,hs];rfl
   .cases h
  .cases h
def Zm(vs:List I):∀(off:Nat) (cells:Array I) (j:Nat),off+j+Z vs<=cells.size->
 ((vs.zipIdx j).foldl (λ cs (p:I×Nat)=>cs.setIfInBounds (off+p.2) p.1) cells).toList=xA cells.toList (off+j) vs:=by
 induction vs with
 |nil=>intro off cells j h;simp[xA]
 |cons v vs ih=>
  intro off cells j h;simp only[cD]at h;rw[List.zipIdx_cons,mu,ih off _ (j+1) (by simp;omega)];simp only[xA,Array.toList_setIfInBounds,cD];rw[List.take_set,List.drop_set,aA (by omega)];have e1:(cells.toList.take (off+(j+1))).set (off+j) v=cells.toList.take (off+j)++[v]:=by
   have hmin:min (off+j) cells.size=off+j:=by omega
   rw[show off+(j+1)=off+j+1 by omega,d_ (by simp;omega),List.set_append];simp[hmin]
  rw[e1,show off+(j+1)+Z vs=off+j+(Z vs+1) by omega];simp
def qg3{a a' b b':List I}(off:Nat)(ha:bI ι a a')(hb:bI ι b b'):bI ι (xA a off b) (xA a' off b'):=by
 unfold xA;rw[hb.length];exact((ha.take off).append hb).append (ha.drop _)
theorem FD{pl pl':Nat->Option (Nat×Nat)}(hp:∀i x,pl i=U x->pl' i=U x):∀{parts parts':List (Nat×I)} {cells:List I} {cells':Array I} {r:List I},wT pl cells parts=U r->
 bI ι cells cells'.toList->ym ι parts parts'->∃r',Instr.fill pl' cells' parts'=U r'/\bI ι r r'.toList
 | [],_,cells,cells',r,h,hc,.nil=>by simp only[wT,fg]at h;subst h;exact⟨cells',rfl,hc⟩
 |(i,v)::rest,_,cells,cells',r,h,hc,.cons hv ht=>by
  rename_i v' rest';unfold wT at h;split at h
  .cases h
  .rename_i off size hpl;have hlen:=hv.cells.length;simp only[xI]at hlen;have hlc:=hc.length;simp only[xI]at hlc;cases hb:(aL (Z v.cells.toList) size&&av (off+size) (Z cells))with
   |false=>rw[hb]at h;cases h
   |true=>
    rw[hb]at h;simp only[aJ]at h;simp only[dW]at hb;have h1:=beq_true hb.1;have h2:=jD hb.2;simp only[xI]at h1;unfold Instr.fill;rw[hp i _ hpl];simp only
    rw[ax]
    .have hs:=qg3 (ι:=ι) off hc hv.cells;have hf:=Zm v'.cells.toList off cells' 0 (by simp;omega);have e:(v'.cells.zipIdx.foldl (λ cs (p:I×Nat)=>cs.setIfInBounds (off+p.2) p.1) cells').toList=xA cells'.toList off v'.cells.toList:=by
      rw[<-Array.foldl_toList,Array.toList_zipIdx];exact hf
     refine FD hp h ?_ ht;rw[show(Array.foldl (λ cs x=>match x with|(c,j)=>cs.setIfInBounds (off+j) c) cells' v'.cells.zipIdx)=v'.cells.zipIdx.foldl (λ cs (p:I×Nat)=>cs.setIfInBounds (off+p.2) p.1) cells' from rfl,e];exact hs
    .simp only[DP,decide_eq_true_eq,ne_eq];omega
include ok in
theorem RA:∀{fs:List Field} {l:List (Nat×Nat)},Dc tb fs=.ok l->∀w:aF,(fs.mapM λ f=>do pure (f.offset,<-sizeOf f.type):Sem (List (Nat×Nat))).run tb.P w=.ok l w
 | [],l,h,w=>by simp only[Dc,ay]at h;subst h;rfl
 |f::fs,l,h,w=>by
  unfold Dc at h;obtain⟨n,e1,h1⟩:=R.aC h;obtain⟨l',e2,h2⟩:=R.aC h1;simp only[ay]at h2;subst h2;have:=RA e2 w;simp only[List.mapM_cons,aM,a6,jz ok e1,aP,this]
include ok in
def Wm {t:au} {parts parts':List (Nat×I)} {v:I} (h:eu tb t parts=.ok v) (hp:ym ι parts parts'):
 ∃v',(∀w:aF,(Instr.build t parts'.toArray).run tb.P w=.ok v' w)/\VR ι v v':=by
 unfold eu at h;obtain⟨zero,hz,h0⟩:=R.aC h;clear h;have hzr:=DM ok hz;obtain⟨_,_,_,hzv⟩:=Bn hz;have hzc:=(hzv ι).cells;split at h0
 .rename_i fs hd;obtain⟨places,hpl,h1⟩:=R.aC h0;clear h0;split at h1
  .rename_i cells hf;simp only[ay]at h1;subst h1;obtain⟨r',e,hr⟩:=FD (pl':=λ i=>places.toArray[i]?) (λ i x hx=>by simpa using hx) hf hzc hp;refine⟨.agg r',λ w=>?_,.agg hr⟩;have hm:(fs.mapM λ f=>do pure (f.offset,<-sizeOf f.type):Sem (Array (Nat×Nat))).run tb.P w=.ok places.toArray w:=by
    rw[Array.mapM_eq_mapM_toList];simp only[Sem.run_map,RA ok hpl w,aP]
   simp only[Instr.build,aM,hzr,aP,bO ok hd,hm];simp only[e,a6]
  .cases h1
 .rename_i len elem hd;obtain⟨n,e1,h1⟩:=R.aC h0;clear h0;split at h1
  .rename_i cells hf;simp only[ay]at h1;subst h1;obtain⟨r',e,hr⟩:=FD (pl':=λ i=>U (i*n,n)) (λ i x hx=>hx) hf hzc hp;refine⟨.agg r',λ w=>?_,.agg hr⟩;simp only[Instr.build,aM,hzr,aP,bO ok hd,jz ok e1];simp only[e,a6]
  .cases h1
 .cases h0
end
section
variable {tb:aN}(ok:dO tb){ι:bj}
include ok in
def X' {s d:au} {x x' v:I} (h:j' tb s d x=.ok v) (hx:VR ι x x'):∃v',(∀w:aF,(convert s d x').run tb.P w=.ok v' w)/\VR ι v v':=by
 unfold j' at h;split at h
 .rename_i ds k k' n hs hd;cases hx;simp only[ay]at h;subst h;refine⟨_,λ w=>?_,.int _ _⟩;simp only[convert,aM,bO ok hs,bO ok hd,aP,qj];rfl
 .rename_i ds s hs hd;cases hx;simp only[ay]at h;subst h;refine⟨_,λ w=>?_,.string _⟩;simp only[convert,aM,bO ok hs,bO ok hd,aP];rfl
 .cases h
include ok in
def qa8 {t:au} {ts:Array au} {x x' v:I} {args:Array I} {rt:au} (h:C0 tb t x=.ok v) (hx:VR ι x x') (ht:ts[0]?=U t) (ha:args[0]?=U x'):
 ∃v',(∀w:aF,(Builtin.len_ ts rt args).run tb.P w=.ok v' w)/\VR ι v v':=by
 unfold C0 at h;split at h
 .rename_i s hd;cases hx;simp only[ay]at h;subst h;refine⟨_,λ w=>?_,.int _ _⟩;simp only[Builtin.len_,ht,ha,aM,bO ok hd,aP,size_data];rfl
 .rename_i n e hd;simp only[ay]at h;subst h;refine⟨_,λ w=>?_,.int _ _⟩;simp only[Builtin.len_,ht,ha,aM,bO ok hd,aP];cases x'<;>rfl
 .rename_i e a n c hd;simp only[ay]at h;subst h;cases hx<;>refine⟨_,λ w=>?_,.int _ _⟩<;>simp only[Builtin.len_,ht,ha,aM,bO ok hd,aP]<;>rfl
 .rename_i e hd;simp only[ay]at h;subst h;cases hx;refine⟨_,λ w=>?_,.int _ _⟩;simp only[Builtin.len_,ht,ha,aM,bO ok hd,aP];rfl
 .cases h
include ok in
def XW {t:au} {ts:Array au} {x x' v:I} {args:Array I} {rt:au} (h:I0 tb t x=.ok v) (hx:VR ι x x') (ht:ts[0]?=U t) (ha:args[0]?=U x'):
 ∃v',(∀w:aF,(Builtin.cap_ ts rt args).run tb.P w=.ok v' w)/\VR ι v v':=by
 unfold I0 at h;split at h
 .rename_i n e hd;simp only[ay]at h;subst h;refine⟨_,λ w=>?_,.int _ _⟩;simp only[Builtin.cap_,ht,ha,aM,bO ok hd,aP];cases x'<;>rfl
 .rename_i e a n c hd;cases hx with
  |slN=>
   have h':R.ok (Value.int .i64 (.ofNat 0))=R.ok v:=h;cases h';refine⟨.int .i64 (.ofNat 0),λ w=>?_,.int _ _⟩;simp only[Builtin.cap_,ht,ha,aM,bO ok hd,aP];rfl
  |sl hl hk=>
   rw[hk]at h;simp only[aJ,ay]at h;subst h;refine⟨_,λ w=>?_,.int _ _⟩;simp only[Builtin.cap_,ht,ha,aM,bO ok hd,aP];rfl
  |slX hl hk hc hsz ho hb hlen=>
   rw[hk]at h;simp only[bJ,ay]at h;subst h;refine⟨_,λ w=>?_,.least hc hb⟩;simp only[Builtin.cap_,ht,ha,aM,bO ok hd,aP];rfl
 .cases h
variable {x' y:I}
def qbv{x y':I}(h:J_ x y=.ok v)(hx:VR ι x x')(hy:VR ι y y'):∃v',(∀(P:cI) (w:aF),(Builtin.min2 x' y').run P w=.ok v' w)/\VR ι v v':=by
 unfold J_ at h;split at h
 .cases hx;cases hy;rename_i k a k' b;cases hk:jv k k' with
  |false=>rw[hk]at h;cases h
  |true=>
   rw[hk]at h;simp only[aJ,ay]at h;subst h;refine⟨_,λ P w=>?_,.int _ _⟩;simp only[Builtin.min2,a6,Ap];by_cases hc:b<a<;>simp[hc]
 .cases h
def qbp{x y':I}(h:J8 x y=.ok v)(hx:VR ι x x')(hy:VR ι y y'):∃v',(∀(P:cI) (w:aF),(Builtin.max2 x' y').run P w=.ok v' w)/\VR ι v v':=by
 unfold J8 at h;split at h
 .cases hx;cases hy;rename_i k a k' b;cases hk:jv k k' with
  |false=>rw[hk]at h;cases h
  |true=>
   rw[hk]at h;simp only[aJ,ay]at h;subst h;refine⟨_,λ P w=>?_,.int _ _⟩;simp only[Builtin.max2,a6,Ap];by_cases hc:a<b<;>simp[hc]
 .cases h
theorem JA{f:I->I->R I}{g:I->I->Sem I}
 (hf:∀{x x' y y' v:I},f x y=.ok v->VR ι x x'->VR ι y y'->∃v',(∀(P:cI) (w:aF),(g x' y').run P w=.ok v' w)/\VR ι v v'):
 ∀{l l':List I} {x x' v:I},Aj f x l=.ok v->VR ι x x'->bI ι l l'->∃v',(∀(P:cI) (w:aF),(l'.foldlM g x').run P w=.ok v' w)/\VR ι v v'
 | [],_,x,x',v,h,hx,.nil=>by simp only[Aj,ay]at h;subst h;exact⟨x',λ _ _=>rfl,hx⟩
 |y::l,_,x,x',v,h,hx,.cons hy ht=>by
  unfold Aj at h;obtain⟨z,h1,h2⟩:=R.aC h;obtain⟨z',e1,r1⟩:=hf h1 hx hy;obtain⟨v',e2,r2⟩:=JA hf h2 r1 ht;refine⟨v',λ P w=>?_,r2⟩;simp only[List.foldlM_cons,aM,e1,aP,e2]
variable {l:List I}
def bI.cons_inv{l':List I}(h:bI ι (v::l) l'):∃v' t',l'=v'::t'/\VR ι v v'/\bI ι l t':=by
 cases h with
 |cons h ht=>exact⟨_,_,rfl,h,ht⟩
include ok in
def Wp {b:Builtin} {ts:Array au} {cs:Array Bool} {rt:au} {args:List I} {args':Array I} {v:I} (h:c_ tb b ts.toList args=.ok v) (ha:bI ι args args'.toList):
 ∃v',(∀w:aF,(builtin b ts rt cs args').run tb.P w=.ok (.value v') w)/\VR ι v v':=by
 have wrap:∀{s:Sem I},(∃v',(∀w:aF,s.run tb.P w=.ok v' w)/\VR ι v v')->∃v',(∀w:aF,(do pure (Next.value (<-s)):Sem Next).run tb.P w=.ok (.value v') w)/\VR ι v v':=by
  rintro s ⟨v',e,r⟩;exact⟨v',λ w=>by simp only[aM,e,aP,a6],r⟩
 have first:∀{t:au} {l:List au},ts.toList=t::l->ts[0]?=U t:=by
  intro t l e;rw[<-gp,e];rfl
 have firstA:∀{x:I} {l:List I},args'.toList=x::l->args'[0]?=U x:=by
  intro t l e;rw[<-gp,e];rfl
 unfold c_ at h;split at h
 .rename_i t l x xs hts;obtain⟨x',t',e,hx,_⟩:=ha.cons_inv;exact wrap (qa8 ok h hx (first hts) (firstA e))
 .rename_i t l x xs hts;obtain⟨x',t',e,hx,_⟩:=ha.cons_inv;exact wrap (XW ok h hx (first hts) (firstA e))
 .obtain⟨x',t',e,hx,ht⟩:=ha.cons_inv;obtain⟨v',e2,r⟩:=JA (g:=Builtin.min2) (λ h a b=>qbv h a b) h hx ht;exact wrap ⟨v',λ w=>by simp only[Builtin.min_,e];exact e2 _ w,r⟩
 .obtain⟨x',t',e,hx,ht⟩:=ha.cons_inv;obtain⟨v',e2,r⟩:=JA (g:=Builtin.max2) (λ h a b=>qbp h a b) h hx ht;exact wrap ⟨v',λ w=>by simp only[Builtin.max_,e];exact e2 _ w,r⟩
 .rename_i a len c;obtain⟨x',t',e,hx,ht⟩:=ha.cons_inv;cases ht;have e':args'= #[x']:=by apply m6;exact e
  cases hc:aO 0 (bV c)with
  |false=>rw[hc]at h;cases h
  |true=>
   rw[hc]at h;simp only[aJ,ay]at h;subst h;have h0:=jE hc;refine wrap ?_;cases hx with
   |sl hl hk=>
    refine⟨_,λ w=>?_,.ptr hl⟩;subst e';show Sem.run tb.P (if bV c≠0 then pure (Value.pointer (U _))else _) w=_;rw[aA (by omega:bV c≠0)];rfl
   |slX hl hk hcc hsz ho hb hlen=>
    rename_i cap' lc;refine⟨_,λ w=>?_,.ptr hl⟩;subst e';show Sem.run tb.P (if cap'≠0 then pure (Value.pointer (U _))else _) w=_;rw[aA (by omega:cap'≠0),ho (by omega)];rfl
 .obtain⟨x',t',e,hx,ht⟩:=ha.cons_inv;cases ht;have e':args'= #[x']:=by apply m6;exact e
  simp only[ay]at h;subst h;refine wrap ?_;cases hx;subst e';exact⟨_,λ w=>rfl,.ptrN⟩
 .cases h
include ok in
def Vj {x x' v:I} {xt t:au} {c:Bool} (h:Ce tb x t c=.ok v) (hx:VR ι x x'):
 ∃v',(∀w:aF,(Instr.typeAssert x' xt t c).run tb.P w=.ok v' w)/\VR ι v v':=by
 have fails:∀{a b:Option au} {m:String},(bif c then(dj tb t).bind λ z=>.ok (.tuple ⟨[z,.bool ag]⟩)else .no 99:R I)=.ok v->
  ∃v',(∀w:aF,(do if c then pure (.tuple #[<-zeroValue t,.bool ag])else runtimePanic (.typeAssertion a b t m):Sem I).run tb.P w=.ok v' w)/\VR ι v v':=by
  intro a b m h;cases c with
  |false=>cases h
  |true=>
   simp only[aJ]at h;obtain⟨z,hz,h1⟩:=R.aC h;simp only[ay]at h1;subst h1;obtain⟨_,_,_,hzv⟩:=Bn hz;refine⟨.tuple ⟨[z,.bool ag]⟩,λ w=>?_,.tuple (.cons (hzv ι) (.cons (.bool _) .nil))⟩;simp only[bB,aM,DM ok hz,aP,a6]
 have holds:∀{y y':I},VR ι y y'->(R.ok (bif c then Value.tuple ⟨[y,.bool ae]⟩else y))=.ok v->
  VR ι v (if c then .tuple #[y',.bool ae]else y'):=by
  intro y y' hy h;simp only[ay]at h;subst h;cases c with
  |false=>exact hy
  |true=>exact .tuple (.cons hy (.cons (.bool _) .nil))
 unfold Ce at h;split at h
 .rename_i ms hd;cases hx;obtain⟨v',e,r⟩:=fails h;refine⟨v',λ w=>?_,r⟩;simp only[Instr.typeAssert,aM,bO ok hd,aP];exact e w
 .rename_i want u y hd;cases hx with
  |iface hy=>
   split at h
   .rename_i i hi;split at h
    .rename_i hm;refine⟨_,λ w=>?_,holds (.iface hy) h⟩;simp only[Instr.typeAssert,aM,bO ok hd,rZ ok hi,aP,hm];rfl
    .rename_i m hm;obtain⟨v',e,r⟩:=fails h;refine⟨v',λ w=>?_,r⟩;simp only[Instr.typeAssert,aM,bO ok hd,rZ ok hi,aP,hm];exact e w
   .cases h
 .rename_i d hne hd;cases hx;obtain⟨v',e,r⟩:=fails h;refine⟨v',λ w=>?_,r⟩;simp only[Instr.typeAssert,aM,bO ok hd,aP];cases d<;>first|exact e w|exact aU rfl (hne _)
 .rename_i d u y hne hd;cases hx with
  |iface hy=>
   cases hb:aL u t with
   |true=>
    obtain rfl:=beq_true hb;rw[hb]at h;simp only[aJ]at h;refine⟨_,λ w=>?_,holds hy h⟩;simp only[Instr.typeAssert,aM,bO ok hd,aP];cases d<;>first|(simp only[bB];rfl)|exact aU rfl (hne _)
   |false=>
    have hb':=beq_false hb;rw[hb]at h;simp only[bJ]at h;obtain⟨v',e,r⟩:=fails h;refine⟨v',λ w=>?_,r⟩;simp only[Instr.typeAssert,aM,bO ok hd,aP];cases d<;>first|(simp only[ax hb'];exact e w)|exact aU rfl (hne _)
 .cases h
 .cases h
def qbT{fn:Fn}(h:∀l,fn=.yield l->False):QD fn:=by
 cases fn<;>first|trivial|exact(h _ rfl).elim
include ok in
def Rx {n:Nat} {τ:T I} {a:Act} {o:Oper} {v:I} (h:ib tb τ o.op=.ok v) (ht:TR ι n τ a.tmps):
 ∃v',(∀w:aF,(execOp a.eval o).run tb.P w=.ok (.value v') w)/\VR ι v v':=by
 have wrap:∀{s:Sem I},(∃v',(∀w:aF,s.run tb.P w=.ok v' w)/\VR ι v v')->∃v',(∀w:aF,(do pure (Next.value (<-s)):Sem Next).run tb.P w=.ok (.value v') w)/\VR ι v v':=by
  rintro s ⟨v',e,r⟩;exact⟨v',λ w=>by simp only[aM,e,aP,a6],r⟩
 unfold ib at h;split at h<;>rename_i hop<;>simp only[execOp,hop]
 .exact⟨_,λ w=>rfl,dh h ht⟩
 .exact⟨_,λ w=>rfl,dh h ht⟩
 .rename_i c x y;obtain⟨cv,hc,h1⟩:=R.aC h;have hcr:=dh hc ht;split at h1
  .generalize a.eval c=cv' at hcr⊢;cases hcr;refine⟨a.eval x,λ w=>?_,dh h1 ht⟩;simp only[aM,asBool,a6,aP,bB]
  .generalize a.eval c=cv' at hcr⊢;cases hcr;refine⟨a.eval y,λ w=>?_,dh h1 ht⟩;simp only[aM,asBool,a6,aP,dR,bg]
  .cases h1
 .rename_i ty ps;obtain⟨vs,h1,h2⟩:=R.aC h;have:=Jf h1 ht;refine wrap ?_;obtain⟨v',e,r⟩:=Wm ok h2 this;refine⟨v',λ w=>?_,r⟩;rw[<-e w];congr 2;apply m6;simp
 .obtain⟨x,h1,h2⟩:=R.aC h;obtain⟨v',e,r⟩:=qh2 h2 (dh h1 ht);exact wrap ⟨v',λ w=>e _ w,r⟩
 .obtain⟨x,h1,h2⟩:=R.aC h;have hx:=dh h1 ht;split at h2
  .cases h2
  .rename_i d hne hd;simp only[ay]at h2;subst h2;refine wrap ⟨_,λ w=>?_,.iface hx⟩;simp only[Instr.makeInterface,aM,bO ok hd,aP];cases d<;>first|rfl|exact aU rfl (hne _)
  .cases h2
 .obtain⟨x,h1,h2⟩:=R.aC h;obtain⟨y,h3,h4⟩:=R.aC h2;have hx:=yI h1 ht;have hy:=yI h3 ht;split at h4
  .cases h4
  .rename_i hfn;simp only[ay]at h4;subst h4;refine wrap ⟨_,λ w=>rfl,.func ?_ (by simpa using hx) (by simpa using hy)⟩;exact qbT hfn
 .obtain⟨x,h1,h2⟩:=R.aC h;exact wrap (Zc ok h2 (dh h1 ht))
 .obtain⟨x,h1,h2⟩:=R.aC h;exact wrap (Zd ok h2 (dh h1 ht))
 .obtain⟨x,h1,h2⟩:=R.aC h;obtain⟨y,h3,h4⟩:=R.aC h2;exact wrap (Pz ok h4 (dh h1 ht) (dh h3 ht))
 .obtain⟨x,h1,h2⟩:=R.aC h;obtain⟨y,h3,h4⟩:=R.aC h2;exact wrap (qae ok h4 (dh h1 ht) (dh h3 ht))
 .rename_i xo i;obtain⟨x,h1,h2⟩:=R.aC h;have hx:=dh h1 ht;split at h2
  .split at h2
   .rename_i vs u hu;simp only[ay]at h2;subst h2;generalize a.eval xo=xv' at hx⊢;cases hx with
    |tuple hvs=>
     rename_i vs';obtain⟨u',e2,r⟩:=hvs.get _ _ hu;refine wrap ⟨u',λ w=>?_,r⟩;have:vs'[i]?=U u':=by rw[<-gp];exact e2
     simp only[Instr.extract,this,a6]
   .cases h2
  .cases h2
 .obtain⟨x,h1,h2⟩:=R.aC h;obtain⟨lo,h3,h4⟩:=R.aC h2;obtain⟨hi,h5,h6⟩:=R.aC h4;obtain⟨mx,h7,h8⟩:=R.aC h6;exact wrap (qgU ok h8 (dh h1 ht) (Fh h3 ht) (Fh h5 ht) (Fh h7 ht))
 .obtain⟨x,h1,h2⟩:=R.aC h;exact wrap (Vj ok h2 (dh h1 ht))
 .obtain⟨x,h1,h2⟩:=R.aC h;have hx:=dh h1 ht;rename_i xo;generalize a.eval xo=xv' at hx⊢;have hx0:=hx;split at h2<;>simp only[ay,reduceCtorEq]at h2<;>subst h2<;>cases hx<;>exact⟨_,λ w=>rfl,hx0⟩
 .rename_i op ty x y yt;obtain⟨xv,h1,h2⟩:=R.aC h;obtain⟨yv,h3,h4⟩:=R.aC h2;obtain⟨v',e,r⟩:=VP ok h4 (dh h1 ht) (dh h3 ht);refine wrap ⟨v',λ w=>?_,r⟩;simp only[aM,Yy h4 (dh h1 ht) (dh h3 ht),aP,e]
 .obtain⟨x,h1,h2⟩:=R.aC h;exact wrap (X' ok h2 (dh h1 ht))
 .rename_i c;split at h
  .rename_i b hb;obtain⟨args,h1,h2⟩:=R.aC h;have ha:=yI h1 ht;obtain⟨v',e,r⟩:=Wp ok (cs:=c.args.map λ|.const _=>ae|_=>ag) (rt:=o.type) (args':=c.args.map a.eval) h2 (by simpa using ha);refine⟨v',λ w=>?_,r⟩;simp only[resolve,hb,aM,a6,aP,invoke];exact e w
  .cases h
 .cases h
end
section
variable {tb:aN}(ok:dO tb){ι:bj}{A:Mem}{w:aF}
variable {fz i:Nat}
def Ni{t:au}{x:Kd}{c:T I}{l:Loc}(h:OR ι (.cells t x fz c) l o')(hw:w.heap[l.blk]?=U o')(hv:c.get i=U v):
 ∃v',w.cell? ⟨l.blk,i+l.sh,V⟩=U v'/\VR ι v v':=by
 obtain⟨cs,fr,rfl,h1,h2,h3⟩:=h;obtain⟨v',e,r⟩:=h2 i v hv;exact⟨v',by simp only[World.cell?,hw,x5,dR,bg,e],r⟩
def J5{a:Addr}(h:w.cell? a=U v)(P:cI)(m:Mode):(load a m).run P w=.ok v w:=by
 rw[run_load,h]
theorem P6(P:cI)(a:Addr):∀(n i:Nat) (acc:Array I) (vs:List I),Z vs=n->(∀j v,vs[j]?=U v->w.cell? (a.add (i+j))=U v)->
 (loadCellsFrom a i n acc).run P w=.ok (acc++vs.toArray) w
 |0,i,acc,vs,hl,_=>by
  cases vs with
  |nil=>simp[loadCellsFrom]
  |cons _ _=>simp at hl
 |n+1,i,acc,vs,hl,h=>by
  cases vs with
  |nil=>simp at hl
  |cons v vs=>
   have h0:w.cell? (a.add i)=U v:=h 0 v rfl;simp only[loadCellsFrom,aM,J5 h0,aP];rw[P6 P a n (i+1) (acc.push v) vs (by simpa using hl) λ j u hu=>by rw[xV,rk];exact h (j+1) u (by simpa using hu)];congr 1;apply m6;simp
def qbc(P:cI)(a:Addr)(n:Nat)(vs:List I)(hl:Z vs=n)(h:∀j v,vs[j]?=U v->w.cell? (a.add j)=U v):(loadCells a n).run P w=.ok vs.toArray w:=by
 unfold loadCells;rw[P6 P a n 0 #[] vs hl λ j v hv=>by rw[ep];exact h j v hv]
 simp
variable {vs:List I}
def OZ{t:au}{x:Kd}{c:T I}{l:Loc}(h:OR ι (.cells t x fz c) l o')(hw:w.heap[l.blk]?=U o')(hv:c.hZ n i=U vs):
 ∃vs',bI ι vs vs'/\Z vs'=n/\∀P (w2:aF),w2.heap=w.heap->(loadCells ⟨l.blk,i+l.sh,V⟩ n).run P w2=.ok vs'.toArray w2:=by
 obtain⟨hlen,hget⟩:=T.CS c n i vs hv;have key:∀j,j<n->∃v',w.cell? ⟨l.blk,i+j+l.sh,V⟩=U v'/\(∀v,vs[j]?=U v->VR ι v v'):=by
  intro j hj;have hj':j<Z vs:=by omega
  have e:=hget j hj;rw[aZ hj']at e;obtain⟨v',e1,r⟩:=Ni h hw e;exact⟨v',e1,λ v hv=>by rw[aZ hj']at hv;cases hv;exact r⟩
 let f:Nat->I:=λ j=>(w.cell? ⟨l.blk,i+j+l.sh,V⟩).getD undef
 refine⟨(lM n).map f,bI.C8 (by simp[hlen]) λ j v v' hv hv'=>?_,by simp,λ P w2 hw2=>qbc P _ n _ (by simp) λ j v hv=>?_⟩
 .have hj:j<n:=by
   rcases ec j n with h1|h1
   .exact h1
   .rw[ky (by simp;omega)]at hv';cases hv'
  obtain⟨u,e1,r⟩:=key j hj;rw[dN,BA hj]at hv';simp only[gX,fg]at hv';have:f j=u:=by simp only[f,e1,sU]
  rw[<-hv',this];exact r v hv
 .have hj:j<n:=by
   rcases ec j n with h1|h1
   .exact h1
   .rw[ky (by simp;omega)]at hv;cases hv
  obtain⟨u,e1,r⟩:=key j hj;rw[dN,BA hj]at hv;simp only[gX,fg]at hv;have:f j=u:=by simp only[f,e1,sU]
  rw[om,<-hv,this,xV];have hc:∀a,w2.cell? a=w.cell? a:=λ a=>by simp only[World.cell?,hw2]
  rw[hc];exact e1
include ok in
def C3 (hr:Rel ι A w) {t:au} {x x' v:I} (h:aj tb A.get t x=.ok v) (hx:VR ι x x'):
 ∃v',(Instr.loadAt t x').run tb.P w=.ok v' w/\VR ι v v':=by
 unfold aj at h;split at h
 .rename_i a;cases hx with
  |ptr hl=>
   rename_i b o lc;simp only at h;split at h
   .rename_i t' xk fz c d _ hg hd;obtain⟨o',hw,ho⟩:=hr.obs _ _ _ hg rfl hl;cases ha:en d with
    |true=>
     rw[ha]at h;simp only[aJ]at h;obtain⟨n,e1,h1⟩:=R.aC h;split at h1
     .rename_i vs hvs;simp only[ay]at h1;subst h1;obtain⟨vs',r,_,run⟩:=OZ ho hw hvs;refine⟨.agg vs'.toArray,?_,.agg (by simpa using r)⟩;simp only[Instr.loadAt,Instr.sureAddr,loadVar,aM,a6,aP,FO ok hd,ha,bB,jz ok e1,run _ _ rfl]
     .cases h1
    |false=>
     rw[ha]at h;simp only[bJ]at h;split at h
     .rename_i u hu;simp only[ay]at h;subst h;obtain⟨v',e,r⟩:=Ni ho hw hu;refine⟨v',?_,r⟩;simp only[Instr.loadAt,Instr.sureAddr,loadVar,aM,a6,aP,FO ok hd,ha,dR,bg,J5 e]
     .cases h
   .cases h
 .cases h
variable {size cap:Nat}{x':I}
def Ja(hr:Rel ι A w){len:Nat}{a:Option Addr}(h:gh A.get size n a=.ok vs)(hx:VR ι (.slice a len cap) x')(hn:n<=len):
 ∃a' cap' vs',x'=.slice a' len cap'/\bI ι vs vs'/\(∀b,a'=U b->∀P (w2:aF),w2.heap=w.heap->(loadCells b (n*size)).run P w2=.ok vs'.toArray w2)/\(a'=V->vs'=[]/\a=V)/\
  (Z vs=n*size\/a=V):=by
 have fin:∀{b o o':Nat} {lc:Loc},ι b=U lc->(0<n->o'=o+lc.sh)->gh A.get size n (U ⟨b,o,V⟩)=.ok vs->
  ∃vs',bI ι vs vs'/\(∀P (w2:aF),w2.heap=w.heap->(loadCells ⟨lc.blk,o',V⟩ (n*size)).run P w2=.ok vs'.toArray w2)/\Z vs=n*size:=by
  intro b o o' lc hl ho h;unfold gh at h;simp only at h;cases hb:aL (n*size) 0 with
  |true=>
   have h0:=beq_true hb;rw[hb]at h;simp only[aJ,ay]at h;subst h;exact⟨[],.nil,(λ P w2 _=>by rw[h0];rfl),by simp[h0]⟩
  |false=>
   have h0:=beq_false hb;rw[hb]at h;simp only[bJ]at h;split at h
   .rename_i t xk fz c _ hg;split at h
    .rename_i l hlv;simp only[ay]at h;subst h;obtain⟨o1,hw,hor⟩:=hr.obs _ _ _ hg rfl hl;obtain⟨vs',r,hlen,run⟩:=OZ hor hw hlv;have hn0:0<n:=by
      rcases Hr n with h1|h1
      .rw[h1,xZ]at h0;exact aU rfl h0
      .exact h1
     rw[ho hn0];exact⟨vs',r,run,(T.CS c _ _ _ hlv).1⟩
    .cases h
   .cases h
 cases hx with
 |slN=>
  simp only[gh,ay]at h;subst h;exact⟨V,0,[],rfl,.nil,(λ b hb=>by cases hb),λ _=>⟨rfl,rfl⟩,.inr rfl⟩
 |sl hl hk=>
  obtain⟨vs',h1,h3,h4⟩:=fin hl (λ _=>rfl) h;exact⟨_,_,vs',rfl,h1,(λ b hb P w2 hw2=>by cases hb;exact h3 P w2 hw2),(λ h=>by cases h),.inl h4⟩
 |slX hl hk hc hsz ho hb hlen=>
  obtain⟨vs',h1,h3,h4⟩:=fin hl (λ h0=>ho (by omega)) h;exact⟨_,_,vs',rfl,h1,(λ b hb P w2 hw2=>by cases hb;exact h3 P w2 hw2),(λ h=>by cases h),.inl h4⟩
theorem MW(P:cI){why:String}:∀{vs vs':List I} {l:List UInt8},bytesOf vs=.ok l->bI ι vs vs'->∀(s:ByteArray),
 (forIn vs' s λ c s=>(match c with
  |Value.int IntKind.u8 n=>pure (ForInStep.yield (s.push (jY n.toNat)))
  |_=>do
   stuck why
   pure (ForInStep.yield s):Sem (ForInStep ByteArray))).run P w=.ok ⟨⟨s.data.toList++l⟩⟩ w
 | [],_,l,h,.nil,s=>by
  simp only[bytesOf,ay]at h;subst h;simp
 |v::vs,_,l,h,.cons hv ht,s=>by
  unfold bytesOf at h;split at h
  .rename_i heq;cases heq
  .rename_i n vs2 heq;simp only[gq]at heq;obtain⟨rfl,rfl⟩:=heq;obtain⟨l',h1,h2⟩:=R.aC h;simp only[ay]at h2;subst h2;cases hv;rw[List.forIn_cons];simp only[aM,a6,aP];rw[MW P h1 ht];congr 1;apply ByteArray.ext;apply m6;show(s.push (jY (cK n).toNat)).data.toList++l'=_;simp[ByteArray.data_push]
  .cases h
def qhP(hr:Rel ι A w){x:I}(h:zb A.get x=.ok v)(hx:VR ι x x'):∀P,∃v',(Conv.bytesToString x').run P w=.ok v' w/\VR ι v v':=by
 intro P;unfold zb at h;split at h
 .simp only[ay]at h;subst h;cases hx;exact⟨.string .empty,rfl,.string _⟩
 .rename_i a len cap;obtain⟨vs,h1,h2⟩:=R.aC h;obtain⟨l,h3,h4⟩:=R.aC h2;simp only[ay]at h4;subst h4;obtain⟨a',cap',vs',e,r,run,hnone,_⟩:=Ja hr h1 hx (aI _);subst e;cases a' with
  |none=>have:=(hnone rfl).2;cases this
  |some b=>
   refine⟨ai l,?_,.string _⟩;have hrun:=run b rfl P w rfl;rw[qq]at hrun;simp only[Conv.bytesToString,aM,hrun,aP];rw[<-Array.forIn_toList];refine(cX (λ r=>Result.andThen r (λ a w'=>Sem.run P (pure (Value.string a)) w')) (MW (w:=w) P h3 r .empty)).trans ?_;rfl
 .cases h
def bytes_beq(x y:ByteArray):(x==y)=(x.data.toList==y.data.toList):=by
 cases x;cases y;rename_i a b;have:((⟨a⟩:ByteArray)==⟨b⟩)=(a==b):=rfl;rw[this];cases a;cases b;simp
def PT{k k' e e':I}{b:Bool}(h:wZ k e=U b)(hk:VR ι k k')(he:VR ι e e'):∀d,((∃x,d=TypeDesc.int x)/\(∃x y,k=.int x y)\/d=.string/\∃x,k=.string x)->
 Instr.sameNow d k' e'=U b:=by
 intro d hd;unfold wZ at h;split at h
 .cases hk;cases he;rename_i kk x kk' y;cases hkk:jv kk kk' with
  |false=>rw[hkk]at h;cases h
  |true=>
   rw[hkk]at h;simp only[aJ,fg]at h;subst h;obtain rfl:=CY hkk;rcases hd with⟨⟨_,rfl⟩,_⟩|⟨rfl,_,h⟩
   .simp only[Instr.sameNow,bB,wW]
   .cases h
 .cases hk;cases he;simp only[fg]at h;subst h;rename_i x y;rcases hd with⟨_,_,_,h⟩|⟨rfl,_,h⟩
  .cases h
  .simp only[Instr.sameNow,pU,bytes_beq]
 .cases h
theorem yN{k k':I}(hk:VR ι k k'){d:TypeDesc}(hd:(∃x,d=TypeDesc.int x)/\(∃x y,k=.int x y)\/d=.string/\∃x,k=.string x):
 ∀{es es':List MapEntry} {i:Nat} {r:Option (Nat×I)},findF k es i=U r->iO ι es es'->
 (r=V/\Instr.findNow d k' es' i=U V)\/∃j v v',r=U (j,v)/\Instr.findNow d k' es' i=U (U (j,v'))/\VR ι v v'/\i<=j/\∃e',es'[j-i]?=U e'/\∃e,es[j-i]?=U e/\wZ k e.key=U ae
 | [],_,i,r,h,.nil=>by
  simp only[findF,fg]at h;subst h;exact .inl ⟨rfl,rfl⟩
 |e::es,_,i,r,h,.cons hkk hb hv ht=>by
  rename_i e' es';unfold findF at h;split at h
  .rename_i hq;simp only[fg]at h;subst h;refine .inr ⟨i,e.val,e'.val,rfl,?_,hv,aI _,e',by simp,e,by simp,hq⟩;unfold Instr.findNow;rw[PT hq hk hkk d hd]
  .rename_i hq;have hs:=PT hq hk hkk d hd;rcases yN hk hd h ht with⟨h1,h2⟩|⟨j,v,v',h1,h2,h3,h4,x',h5,x,h6,h7⟩
   .refine .inl ⟨h1,?_⟩;unfold Instr.findNow;rw[hs];exact h2
   .have hj:j-i=(j-(i+1))+1:=by simp only[Eg]at h4;omega
    refine .inr ⟨j,v,v',h1,?_,h3,by simp only[Eg]at h4;omega,x',by rw[hj];simpa using h5,x,by rw[hj];simpa using h6,h7⟩;unfold Instr.findNow;rw[hs];exact h2
  .cases h
def FR{t:au}{k:I}(h:h_ tb t k=ae):∃d,tb.aB t=U d/\((∃x,d=TypeDesc.int x)/\(∃x y,k=.int x y)\/d=.string/\∃x,k=.string x):=by
 unfold h_ at h;split at h
 .rename_i x _ _ hd;exact⟨_,hd,.inl ⟨⟨_,rfl⟩,_,_,rfl⟩⟩
 .rename_i x hd;exact⟨_,hd,.inr ⟨rfl,_,rfl⟩⟩
 .cases h
include ok in
def EY {t:au} {k k':I} {d:TypeDesc} (hd:tb.aB t=U d) (hk:(∃x,d=TypeDesc.int x)/\(∃x y,k=.int x y)\/d=.string/\∃x,k=.string x) (hv:VR ι k k') (e:Bool) (w:aF):
 (Instr.checkKey e 10000 t k').run tb.P w=.ok () w:=by
 rw[show(10000:Nat)=9999+1 from rfl,Instr.checkKey];simp only[aM,bO ok hd,aP];rcases hk with⟨⟨_,rfl⟩,_,_,rfl⟩|⟨rfl,_,rfl⟩<;>cases hv<;>rfl
include ok in
def Ah {t:au} {k':I} {d:TypeDesc} (hd:tb.aB t=U d) {es':List MapEntry} {r:Option (Nat×I)} (h:Instr.findNow d k' es' 0=U r) (w:aF):
 (Instr.findKey t k' es').run tb.P w=.ok r w:=by
 simp only[Instr.findKey,aM,bO ok hd,aP,h,a6]
variable {r:Nat}
def l_{o:Obj}(h:w.heap[r]?=U o)(hc:∀c e f,o≠.cells c e f)(P:cI):(getObj r).run P w=.ok o w:=by
 simp only[getObj,Sem.run,h]
variable {es:List MapEntry}
def NQ(hr:Rel ι A w){x:I}(h:wJ A.get x=.ok es)(hx:VR ι x x'):
 ∃es':Array MapEntry,iO ι es es'.toList/\((x'=.map V/\es'= #[])\/∃r clock,x'=.map (U r)/\w.heap[r]?=U (.map es' clock)):=by
 unfold wJ at h;split at h
 .simp only[ay]at h;subst h;cases hx;exact⟨#[],.nil,.inl ⟨rfl,rfl⟩⟩
 .rename_i b;split at h
  .rename_i es0 clock hg;simp only[ay]at h;subst h;cases hx with
   |map hl=>
    obtain⟨o',hw,_,es',rfl,he⟩:=hr.obs _ _ _ hg rfl hl;exact⟨es',he,.inr ⟨_,clock,rfl,hw⟩⟩
  .cases h
 .cases h
include ok in
def qbf (hr:Rel ι A w) {t:au} {x x' k k' v:I} {c:Bool} (h:qf tb A.get t x k c=.ok v) (hx:VR ι x x') (hk:VR ι k k'):
 ∃v',(Instr.lookup t x' k' c).run tb.P w=.ok v' w/\VR ι v v':=by
 unfold qf at h;split at h
 .rename_i key elem hd;cases hko:h_ tb key k with
  |false=>rw[hko]at h;cases h
  |true=>
   rw[hko]at h;simp only[aJ]at h;obtain⟨d,hkd,fA⟩:=FR hko;obtain⟨es,h1,h2⟩:=R.aC h;obtain⟨es',he,hes⟩:=NQ hr h1 hx;have hck:=EY ok hkd fA hk es'.isEmpty w;have fin:∀{z z':I} {b:Bool},VR ι z z'->VR ι (bif c then Value.tuple ⟨[z,.bool b]⟩else z) (if c then .tuple #[z',.bool b]else z'):=by
    intro z z' b hz;cases c with
    |false=>exact hz
    |true=>exact .tuple (.cons hz (.cons (.bool _) .nil))
   have run:∀{r:Option (Nat×I)},Instr.findNow d k' es'.toList 0=U r->(Instr.lookup t x' k' c).run tb.P w=
    ((match(generalizing:=false) r with
     |some (_,v)=>pure (v,ae)
     |none=>do pure (<-zeroValue elem,ag):Sem (I×Bool)).run tb.P w).andThen λ p w=>.ok (if c then .tuple #[p.1,.bool p.2]else p.1) w:=by
    intro r hr;have fin:∀w:World,Sem.run tb.P (match(generalizing:=false) r with
     |some (_,v)=>do
      let x<-pure (v,ae)
      pure (if c=ae then Value.tuple #[x.1,Value.bool x.2]else x.1)
     |none=>do
      let z<-zeroValue elem;let x<-pure (z,ag)
      pure (if c=ae then Value.tuple #[x.1,Value.bool x.2]else x.1)) w=
     ((match(generalizing:=false) r with
     |some (_,v)=>pure (v,ae)
     |none=>do pure (<-zeroValue elem,ag):Sem (I×Bool)).run tb.P w).andThen λ p w=>.ok (if c then .tuple #[p.1,.bool p.2]else p.1) w:=by
     intro w;cases r with
     |none=>
      simp only[aM,a6,aP];cases (zeroValue elem).run tb.P w<;>rfl
     |some p=>rfl
    rcases hes with⟨rfl,rfl⟩|⟨r0,clock,rfl,hw⟩
    .simp only[Instr.lookup,aM,bO ok hd,aP,a6,hck,Ah ok hkd hr];exact fin w
    .simp only[Instr.lookup,aM,bO ok hd,aP,a6,l_ hw (by simp),hck,Ah ok hkd hr];exact fin w
   split at h2
   .rename_i u hf;simp only[ay]at h2;subst h2;rcases yN hk fA hf he with⟨h3,_⟩|⟨j,v0,v',h3,h4,h5,_⟩
    .cases h3
    .cases h3;refine⟨_,?_,fin h5⟩;rw[run h4];rfl
   .rename_i hf;obtain⟨z,hz,h3⟩:=R.aC h2;simp only[ay]at h3;subst h3;obtain⟨_,_,_,hzv⟩:=Bn hz;rcases yN hk fA hf he with⟨_,h4⟩|⟨j,v0,v',h3,_⟩
    .refine⟨_,?_,fin (hzv ι)⟩;rw[run h4];simp only[aM,DM ok hz,aP,a6]
    .cases h3
   .cases h2
 .cases h
end
end Go.Am
end
