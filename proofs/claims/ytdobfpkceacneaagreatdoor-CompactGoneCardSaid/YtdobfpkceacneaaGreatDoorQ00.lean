/- The abstract machine, the walk of the law and its plain laws, made small by a program; part 0: no conditions but those in each theorem. -/
import Derived.Calls
import Derived.Laws.Sem
set_option maxHeartbeats 16000000
set_option maxRecDepth 100000
set_option linter.unusedSimpArgs false
set_option linter.unusedVariables false
set_option linter.defProp false
noncomputable section
open Array renaming ext'→m8,getD_eq_getD_getElem?→LO,getElem?_setIfInBounds_ne→LP,getElem?_toList→fW,length_toList→xO
open Bool renaming and_eq_true→dz,eq_iff_iff→qu,false_and→zB,false_eq_true→ed,not_true→sZ,or_eq_true→D7,true_and→t_,false→af,true→aa
open ByteArray renaming toList→G7
open Go renaming Code→aH,IntKind→cY,Operand→bA,Program→cI,TypeId→aj,Value→O,World→aG
open Int renaming natCast_nonneg→zJ,ofNat→cO,ofNat_eq_natCast→ig
open List renaming all_eq_true→ov,drop_eq_getElem_cons→nb,drop_eq_nil_of_le→Hg,foldl_cons→mG,getElem?_eq_getElem→aV,getElem?_eq_none→lW,getElem?_map→da,getElem?_range→zN,length→Z,length_cons→cd,length_nil→dL,range→jE,range'→uf,replicate→fq,take_succ_eq_append_getElem→eH
open List.cons renaming injEq→ff
open Nat renaming add_assoc→rG,add_mul→oZ,add_right_comm→yf,beq→aL,beq_eq→pS,ble→au,ble_eq→pT,blt→aM,blt_eq→bT,div→nc,eq_of_beq_eq_true→dZ,eq_zero_or_pos→BH,le_refl→aJ,le_trans→dp,lt_of_le_of_lt→pU,lt_of_lt_of_le→dc,lt_or_ge→d_,lt_succ_self→yg,mod→kc,mod_eq_of_lt→rH,mod_lt→iU,mul_mod_right→Ej,mul_one→nf,ne_of_beq_eq_false→Hv,not_lt_zero→BK,pow_le_pow_right→rI,pow_succ→zZ,shiftLeft_eq→Hw,shiftRight_eq_div_pow→uk,succ→qA,succ_eq_add_one→El,xor_lt_two_pow→Em,zero_add→dO,zero_mul→oB
open Option renaming getD_some→td,isSome_none→yl,map_some→fZ,none→Y,some→U
open Option.some renaming inj→je,injEq→eM
open Go.Result renaming andThen_ok→aQ
open Go.Sem renaming run_bind→aP,run_pure→aW
open UInt8 renaming lt_iff_toNat_lt→BY,ofNat→lZ,toNat_inj→yI
namespace Go
def aZ:=@absurd
def ba:=@cond_false
def aI:=@cond_true
def cV:=@congrArg
def bO:=@if_false
def aq:=@if_neg
def aC:=@if_pos
def bR:=@if_true
end Go
namespace Go.Am
inductive T (α:Type) where
 |e:T α
 |n (l:T α) (v:Option α) (r:T α):T α
namespace T
variable {α:Type}
def get(t:T α):Nat->Option α:=
 T.rec (λ _=>Y)
  (λ _ v _ gl gr k=>Bool.rec (Bool.rec (gr (Nat.pred (nc k 2))) (gl (nc k 2)) (aL (kc k 2) 1)) v (aL k 0)) t
def put(x : α)(f : Nat) : T α -> Nat -> T α :=
  Nat.rec (λ t _ => t)
    (λ _ ih t k => T.rec
       (Bool.rec (Bool.rec (n e Y (ih e (Nat.pred (nc k 2)))) (n (ih e (nc k 2)) Y e) (aL (kc k 2) 1)) (n e (U x) e) (aL k 0))
       (λ l v r _ _ => Bool.rec (Bool.rec (n l v (ih r (Nat.pred (nc k 2)))) (n (ih l (nc k 2)) v r) (aL (kc k 2) 1)) (n l (U x) r) (aL k 0)) t) f
def pC(k:Nat):(e:T α).get k=Y:=rfl
def FD(l r:T α)(v:Option α)(k:Nat):
 (n l v r).get k=if k=0 then v else if k % 2=1 then l.get (k/2)else r.get (k/2-1):=by
 show Bool.rec (motive:=λ _=>Option α) (Bool.rec (r.get (Nat.pred (nc k 2))) (l.get (nc k 2)) (aL (kc k 2) 1)) v (aL k 0)=_;by_cases h:k=0
 .subst h;rfl
 .have h0:aL k 0=af:=by cases k;exact aZ rfl h;rfl
  rw[h0,aq h];show Bool.rec (motive:=λ _=>Option α) _ _ (aL (kc k 2) 1)=_;by_cases h1:k % 2=1
  .have e1:aL (kc k 2) 1=aa:=by rw[pS];exact h1
   rw[e1,aC h1];rfl
  .have e1:aL (kc k 2) 1=af:=by
    cases hb:aL (kc k 2) 1 with
    |false=>rfl
    |true=>exact aZ (dZ hb) h1
   rw[e1,aq h1];rfl
def Dr(x:α)(f k:Nat):put x (f+1) (e:T α) k=
 if k=0 then n e (U x) e else if k % 2=1 then n (put x f e (k/2)) Y e else n e Y (put x f e (k/2-1)):=by
 show Bool.rec (motive:=λ _=>T α) (Bool.rec (n e Y (put x f e (Nat.pred (nc k 2)))) (n (put x f e (nc k 2)) Y e) (aL (kc k 2) 1)) (n e (U x) e) (aL k 0)=_;by_cases h:k=0
 .subst h;rfl
 .have h0:aL k 0=af:=by cases k;exact aZ rfl h;rfl
  rw[h0,aq h];show Bool.rec (motive:=λ _=>T α) _ _ (aL (kc k 2) 1)=_;by_cases h1:k % 2=1
  .have e1:aL (kc k 2) 1=aa:=by rw[pS];exact h1
   rw[e1,aC h1];rfl
  .have e1:aL (kc k 2) 1=af:=by
    cases hb:aL (kc k 2) 1 with
    |false=>rfl
    |true=>exact aZ (dZ hb) h1
   rw[e1,aq h1];rfl
def qk(x:α)(f k:Nat)(l r:T α)(v:Option α):put x (f+1) (n l v r) k=
 if k=0 then n l (U x) r else if k % 2=1 then n (put x f l (k/2)) v r else n l v (put x f r (k/2-1)):=by
 show Bool.rec (motive:=λ _=>T α) (Bool.rec (n l v (put x f r (Nat.pred (nc k 2)))) (n (put x f l (nc k 2)) v r) (aL (kc k 2) 1)) (n l (U x) r) (aL k 0)=_;by_cases h:k=0
 .subst h;rfl
 .have h0:aL k 0=af:=by cases k;exact aZ rfl h;rfl
  rw[h0,aq h];show Bool.rec (motive:=λ _=>T α) _ _ (aL (kc k 2) 1)=_;by_cases h1:k % 2=1
  .have e1:aL (kc k 2) 1=aa:=by rw[pS];exact h1
   rw[e1,aC h1];rfl
  .have e1:aL (kc k 2) 1=af:=by
    cases hb:aL (kc k 2) 1 with
    |false=>rfl
    |true=>exact aZ (dZ hb) h1
   rw[e1,aq h1];rfl
def OQ(x:α):∀(f:Nat) (t:T α) (k j:Nat),k<2^f-1\/k<f->(put x f t k).get j=if j=k then U x else t.get j:=by
 intro f
 induction f with
 |zero=>intro t k j h;simp at h
 |succ f ih=>
  intro t k j h;have b1:k % 2=1->(k/2<2^f-1\/k/2<f):=by
   intro h1;rcases h with h|h
   .left;rw[zZ]at h;omega
   .right;omega
  have b2:k≠0->k % 2≠1->(k/2-1<2^f-1\/k/2-1<f):=by
   intro h0 h1;rcases h with h|h
   .left;rw[zZ]at h;omega
   .right;omega
  have aux:∀(l r:T α) (v:Option α),(t=n l v r\/(t=e/\l=e/\r=e/\v=Y))->(put x (f+1) t k).get j=if j=k then U x else t.get j:=by
   intro l r v ht;have e1:put x (f+1) t k=if k=0 then n l (U x) r else if k % 2=1 then n (put x f l (k/2)) v r else n l v (put x f r (k/2-1)):=by
    rcases ht with rfl|⟨rfl,rfl,rfl,rfl⟩
    .exact qk ..
    .exact Dr ..
   have e2:t.get j=if j=0 then v else if j % 2=1 then l.get (j/2)else r.get (j/2-1):=by
    rcases ht with rfl|⟨rfl,rfl,rfl,rfl⟩
    .exact FD ..
    .simp[pC]
   rw[e1,e2];by_cases k0:k=0
   .rw[aC k0,FD];by_cases j0:j=0
    .simp[j0,k0]
    .rw[aq j0,aq (by omega:¬j=k),aq j0]
   .rw[aq k0];by_cases k1:k % 2=1
    .rw[aC k1,FD,ih _ _ _ (b1 k1)];by_cases j0:j=0
     .rw[aC j0,aq (by omega:¬j=k),aC j0]
     .rw[aq j0,aq j0];by_cases j1:j % 2=1
      .rw[aC j1,aC j1];by_cases hjk:j=k
       .simp[hjk]
       .rw[aq (by omega:¬j/2=k/2),aq hjk]
      .rw[aq j1,aq j1,aq (by omega:¬j=k)]
    .rw[aq k1,FD,ih _ _ _ (b2 k0 k1)];by_cases j0:j=0
     .rw[aC j0,aq (by omega:¬j=k),aC j0]
     .rw[aq j0,aq j0];by_cases j1:j % 2=1
      .rw[aC j1,aC j1,aq (by omega:¬j=k)]
      .rw[aq j1,aq j1];by_cases hjk:j=k
       .simp[hjk]
       .rw[aq (by omega:¬j/2-1=k/2-1),aq hjk]
  cases t with
  |e=>exact aux e e Y (.inr ⟨rfl,rfl,rfl,rfl⟩)
  |n l v r=>exact aux l r v (.inl rfl)
def set(t:T α)(k:Nat)(x:α):T α:=put x (bif aM k 18446744073709551615 then 64 else qA k) t k
def cq(t:T α)(k j:Nat)(x:α):(t.set k x).get j=if j=k then U x else t.get j:=by
 unfold set;cases h:aM k 18446744073709551615 with
 |true=>
  have h':k<18446744073709551615:=by simpa[bT]using h
  exact OQ x 64 t k j (.inl h')
 |false=>exact OQ x (k+1) t k j (.inr (yg k))
def bP(t:T α)(i:Nat)(l:List α):T α:=
 List.rec (λ _ t=>t) (λ x _ ih i t=>ih (qA i) (t.set i x)) l i t
def my(t:T α)(i:Nat):t.bP i []=t:=rfl
def iD(t:T α)(i:Nat)(x:α)(l:List α):t.bP i (x::l)=(t.set i x).bP (i+1) l:=rfl
def oO(l:List α):∀(t:T α) (i j:Nat),(t.bP i l).get j=if i<=j/\j<i+Z l then l[j-i]? else t.get j:=by
 induction l with
 |nil=>intro t i j;rw[my,aq];simp only[dL];omega
 |cons x l ih=>
  intro t i j;rw[iD,ih,cq];simp only[cd];by_cases h1:i+1<=j/\j<i+1+Z l
  .rw[aC h1,aC (by omega)];obtain⟨d,rfl⟩:∃d,j=i+1+d:=⟨j-(i+1),by omega⟩;have e1:i+1+d-(i+1)=d:=by omega
   have e2:i+1+d-i=d+1:=by omega
   rw[e1,e2];rfl
  .rw[aq h1];by_cases h2:j=i
   .subst h2;rw[aC rfl,aC (by omega)];simp
   .rw[aq h2,aq (by omega)]
def iX(t:T α)(n:Nat):Nat->Option (List α):=
 Nat.rec (λ _=>U [])
  (λ _ ih i=>Option.rec Y (λ x=>Option.rec Y (λ l=>U (x::l)) (ih (qA i))) (t.get i)) n
def Z1(t:T α)(i:Nat):t.iX 0 i=U []:=rfl
def OU(t:T α)(n i:Nat):t.iX (n+1) i=match t.get i with|none=>Y|some x=>match t.iX n (i+1)with|none=>Y|some l=>U (x::l):=by
 show Option.rec (motive:=λ _=>Option (List α)) Y (λ x=>Option.rec Y (λ l=>U (x::l)) (t.iX n (i+1))) (t.get i)=_;cases t.get i with
 |none=>rfl
 |some x=>cases t.iX n (i+1)<;>rfl
def CX(t:T α):∀(n i:Nat) (l:List α),t.iX n i=U l->Z l=n/\∀j,j<n->t.get (i+j)=l[j]?:=by
 intro n
 induction n with
 |zero=>intro i l h;rw[Z1]at h;cases h;exact⟨rfl,λ j hj=>aZ hj (BK _)⟩
 |succ n ih=>
  intro i l h;rw[OU]at h;cases hx:t.get i with
  |none=>rw[hx]at h;cases h
  |some x=>
   rw[hx]at h;simp only at h;cases hl:t.iX n (i+1)with
   |none=>rw[hl]at h;cases h
   |some l'=>
    rw[hl]at h;simp only[eM]at h;subst h;obtain⟨h1,h2⟩:=ih _ _ hl;refine⟨by simp[h1],λ j hj=>?_⟩;cases j with
    |zero=>simpa using hx
    |succ j=>have:=h2 j (by omega);rw[show i+(j+1)=i+1+j by omega,this];simp
end T
def T.ofList{α:Type}(l:List α):T α:=T.bP .e 0 l
def T.Az{α:Type}(l:List α)(i:Nat):(T.ofList l).get i=l[i]?:=by
 unfold T.ofList;rw[T.oO];by_cases hi:i<Z l
 .rw[aC (by omega)];simp
 .rw[aq (by omega),T.pC,lW (by omega)]
inductive R (α:Type) where
 |ok (a:α)
 |no (why:Nat)
def av:=@R.ok.injEq
def R.bind{α β:Type}(x:R α)(f:α->R β):R β:=
 match x with
 |.ok a=>f a
 |.no w=>.no w
structure eT where
 state:LoopState
 pending:Option aH
 fn:FuncId
 tmps:T O
 n:Nat
 params:List Tmp
 assign:aH
 body:aH
 defers:Nat
inductive Kd where
 |var (n:Nat)
 |row
 |mark
 |room (n:Nat)
inductive Ob where
 |cells (t:aj) (x:Kd) (fz:Nat) (c:T O)
 |map (es:List MapEntry) (clock:Nat)
 |sit (s:ByteArray) (pos:Nat)
 |mit (m c:Nat) (b:Option Nat)
 |nit
 |loop (r:eT)
 |defd
 |dead
structure Mem where
 heap:T Ob
 next:Nat
def Mem.get(A:Mem)(b:Nat):Option Ob:=A.heap.get b
def Mem.set(A:Mem)(b:Nat)(o:Ob):Mem:={A with heap:=A.heap.set b o}
def Mem.alloc(A:Mem)(o:Ob):Mem:={heap:=A.heap.set A.next o,next:=qA A.next}
def GB(k:Nat):Nat:=18446744073709551617+2*k
def FE(g:Nat->Option Ob)(k:Nat):R O:=
 match g k with
 |some (.cells _ .row fz _)=>bif aL fz (GB k)then .ok (.pointer (U ⟨k,0,Y⟩))else .no 201
 |_=>.no 201
def sk:Nat->O->Bool
 |0,_=>af
 |d+1,v=>
  match v with
  |.bool _|.int _ _|.string _|.pointer Y|.slice Y 0 0|.map Y|.nilFunc|.nilIface=>aa
  |.iface _ v=>sk d v
  |.agg l=>l.toList.all (sk d)
  |.tuple l=>l.toList.all (sk d)
  |.func (.func _) ⟨[]⟩ ⟨[]⟩=>aa
  |_=>af
structure aO where
 P:cI
 ty:T TypeInfo
 fn:T Func
 ex:T Nat
 hk:T (List O->Mem->R (O×Mem))
def aO.aB(tb:aO)(t:aj):Option TypeDesc:=
 match tb.ty.get t with
 |some i=>match i.desc with
  |.named _ u=>match tb.ty.get u with
   |some j=>U j.desc
   |none=>Y
  |d=>U d
 |none=>Y
def dj(k:cY)(n:Int):Bool:=
 match k,n with
 |.i64,.ofNat m=>aM m 9223372036854775808
 |.i64,.negSucc m=>aM m 9223372036854775808
 |.u8,.ofNat m=>aM m 256
 |.u16,.ofNat m=>aM m 65536
 |.u32,.ofNat m=>aM m 4294967296
 |.u64,.ofNat m=>aM m 18446744073709551616
 |.i32,.ofNat m=>aM m 2147483648
 |.i32,.negSucc m=>aM m 2147483648
 |_,_=>af
def eP(k:cY)(n:Int):Int:=bif dj k n then n else k.wrap n
def mu(a b:Int):Bool:=
 match a,b with
 |.ofNat x,.ofNat y=>aM x y
 |.ofNat _,.negSucc _=>af
 |.negSucc _,.ofNat _=>aa
 |.negSucc x,.negSucc y=>aM y x
def ky(a b:Int):Bool:=
 match a,b with
 |.ofNat x,.ofNat y=>aL x y
 |.negSucc x,.negSucc y=>aL x y
 |_,_=>af
def iA(a b:cY):Bool:=
 match a,b with
 |.i8,.i8|.i16,.i16|.i32,.i32|.i64,.i64|.u8,.u8|.u16,.u16|.u32,.u32|.u64,.u64=>aa
 |_,_=>af
def Cm(op:BinOp)(k:cY)(x y:Int):R O:=
 match op,x,y with
 |.and,.ofNat a,.ofNat b=>bif dj k x&&dj k y then .ok (.int k (.ofNat (Nat.land a b)))else .no 10
 |.or,.ofNat a,.ofNat b=>bif dj k x&&dj k y then .ok (.int k (.ofNat (Nat.lor a b)))else .no 11
 |.xor,.ofNat a,.ofNat b=>bif dj k x&&dj k y then .ok (.int k (.ofNat (Nat.xor a b)))else .no 12
 |.and,.ofNat a,.negSucc b=>bif dj k x&&dj k y then .ok (.int k (.ofNat (Nat.xor a (Nat.land a b))))else .no 10
 |_,_,_=>.no 13
def DB(op:BinOp)(k:cY)(x y:Int):R O:=
 match op,x,y with
 |.shr,.ofNat a,.ofNat b=>.ok (.int k (.ofNat (Nat.shiftRight a (bif aM b k.bits then b else k.bits))))
 |.shl,.ofNat a,.ofNat b=>bif aM b k.bits then .ok (.int k (eP k (.ofNat (Nat.shiftLeft a b))))else .ok (.int k 0)
 |_,_,_=>.no 14
def CG(op:BinOp)(k:cY)(x y:Int):R O:=
 match op,x,y with
 |.quo,.ofNat a,.ofNat (b+1)=>.ok (.int k (eP k (.ofNat (nc a (b+1)))))
 |.rem,.ofNat a,.ofNat (b+1)=>.ok (.int k (.ofNat (kc a (b+1))))
 |.quo,x,y=>bif ky y 0 then .no 15 else .ok (.int k (k.wrap (x.tdiv y)))
 |.rem,x,y=>bif ky y 0 then .no 15 else .ok (.int k (x.tmod y))
 |_,_,_=>.no 16
def cJ:List UInt8->List UInt8->Bool
 |_,[]=>af
 | [],_::_=>aa
 |a::x,b::y=>aM a.toNat b.toNat||(aL a.toNat b.toNat&&cJ x y)
def nt:List UInt8->List UInt8->Bool
 | [],[]=>aa
 |a::x,b::y=>aL a.toNat b.toNat&&nt x y
 |_,_=>af
def ag(l:List UInt8):O:=.string ⟨⟨l⟩⟩
def j8(op:BinOp)(x y:List UInt8):R O:=
 match op with
 |.add=>bif aM (Z x+Z y) 4611686018427387904 then .ok (ag (x++y))else .no 20
 |.eql=>.ok (.bool (nt x y))
 |.neq=>.ok (.bool (!nt x y))
 |.lss=>.ok (.bool (cJ x y))
 |.leq=>.ok (.bool (cJ x y||nt x y))
 |.gtr=>.ok (.bool (!(cJ x y||nt x y)))
 |.geq=>.ok (.bool (!cJ x y))
 |_=>.no 21
def bj(op:BinOp)(k:cY)(a b:Int):R O:=
 match op with
 |.add=>.ok (.int k (eP k (a+b)))
 |.sub=>.ok (.int k (eP k (a-b)))
 |.mul=>.ok (.int k (eP k (a*b)))
 |.quo|.rem=>CG op k a b
 |.and|.or|.xor|.andNot=>Cm op k a b
 |.eql=>.ok (.bool (ky a b))
 |.neq=>.ok (.bool (!ky a b))
 |.lss=>.ok (.bool (mu a b))
 |.leq=>.ok (.bool (!mu b a))
 |.gtr=>.ok (.bool (mu b a))
 |.geq=>.ok (.bool (!mu a b))
 |.shl|.shr=>.no 22
def Tp(n:Nat):O:=.complex .f64 n 0
def JX(op:BinOp)(n:Nat)(y:Int):R O:=
 match op,y with
 |.lss,.ofNat m=>bif au m n then .ok (.bool af)else .no 17
 |.geq,.ofNat m=>bif au m n then .ok (.bool aa)else .no 17
 |.sub,.ofNat m=>bif au m n then .ok (Tp (n-m))else .no 17
 |_,_=>.no 18
def JY(op:BinOp)(y:Int)(n:Nat):R O:=
 match op,y with
 |.gtr,.ofNat m=>bif au m n then .ok (.bool af)else .no 17
 |.leq,.ofNat m=>bif au m n then .ok (.bool aa)else .no 17
 |_,_=>.no 18
def iu(op:BinOp)(d:Option TypeDesc)(x y:O):R O:=
 match x,y with
 |.complex .f64 n 0,.int .i64 y=>JX op n y
 |.int .i64 y,.complex .f64 n 0=>JY op y n
 |.int k a,.int k' b=>
  match op with
  |.shl|.shr=>DB op k a b
  |_=>bif iA k k' then bj op k a b else .no 23
 |.string a,.string b=>j8 op a.data.toList b.data.toList
 |.bool a,.bool b=>
  match op,d with
  |.eql,U .bool=>.ok (.bool (bif a then b else !b))
  |.neq,U .bool=>.ok (.bool (bif a then !b else b))
  |_,_=>.no 24
 |_,_=>.no 25
def Bi(op:UnOp)(x:O):R O:=
 match op,x with
 |.neg,.int k n=>.ok (.int k (eP k (0-n)))
 |.xor,.int k (.ofNat n)=>
  bif k.signed then .ok (.int k (eP k (.negSucc n)))
  else bif dj k (.ofNat n)then .ok (.int k (.ofNat (2^k.bits-1-n)))else .no 26
 |.xor,.int k (.negSucc n)=>bif k.signed then .ok (.int k (eP k (.ofNat n)))else .no 26
 |.not,.bool b=>.ok (.bool (!b))
 |_,_=>.no 27
def dH(c:Nat):Bool:=aL (kc c 2) 0
def bH(c:Nat):Nat:=bif dH c then nc c 2 else nc (nc c 2) 65536
def gM(c:Nat):Nat:=kc (nc c 2) 65536
def cu(cap es:Nat):Nat:=2*(cap*65536+es)+1
def jt(c l:Nat):Nat:=bif dH c then 2*(bH c-l)else cu (bH c-l) (gM c)
def gh(c size:Nat):Bool:=bif dH c then aa else aL (gM c) size
def iC(v:O):R Nat:=
 match v with
 |.int _ (.ofNat n)=>.ok n
 |_=>.no 30
def bound(v:Option O)(d most:Nat):R Nat:=
 match v with
 |none=>.ok d
 |some v=>match iC v with
  |.ok n=>bif au n most then .ok n else .no 31
  |.no w=>.no w
def fi(a:Addr)(n:Nat):Addr:=⟨a.block,a.off+n,Y⟩
def aY(tb:aO)(t:aj):R Nat:=
 match tb.ty.get t with
 |some i=>.ok i.size
 |none=>.no 32
def eD(tb:aO)(t:aj)(x:O)(lo hi mx:Option O):R O:=
 match tb.aB t,x with
 |some .string,.string s=>
  match mx with
  |some _=>.no 33
  |none=>(bound hi (Z s.data.toList) (Z s.data.toList)).bind λ h=>(bound lo 0 h).bind λ l=>
   .ok (ag ((s.data.toList.take h).drop l))
 |some (.slice elem),.slice a len cap=>
  match mx with
  |none=>(bound hi len (bH cap)).bind λ h=>(bound lo 0 h).bind λ l=>(aY tb elem).bind λ size=>
   match a with
   |none=>.ok (.slice Y 0 0)
   |some a=>match a.spot with
    |some _=>.no 34
    |none=>bif dH cap&&aL (bH cap) l then .ok (.slice (U a) (h-l) 0)
     else bif gh cap size then .ok (.slice (U (fi a (l*size))) (h-l) (jt cap l))else .no 35
  |some mv=>(bound (U mv) 0 (bH cap)).bind λ m=>(bound hi 0 m).bind λ h=>(bound lo 0 h).bind λ l=>(aY tb elem).bind λ size=>
   match a,hi with
   |_,Y=>.no 36
   |none,_=>.ok (.slice Y 0 0)
   |some a,U _=>match a.spot with
    |some _=>.no 37
    |none=>bif dH cap||(gh cap size&&aM 0 (bH cap))then
     bif aL m l then .ok (.slice (U a) (h-l) 0)else .ok (.slice (U (fi a (l*size))) (h-l) (2*(m-l)))
     else .no 37
 |some (.array n elem),.pointer (U a)=>
  match mx,a.spot with
  |none,Y=>(bound hi n n).bind λ h=>(bound lo 0 h).bind λ l=>(aY tb elem).bind λ size=>
   bif aL n l then .ok (.slice (U a) (h-l) 0)else .ok (.slice (U (fi a (l*size))) (h-l) (2*(n-l)))
  |_,_=>.no 38
 |_,_=>.no 39
def bM(tb:aO)(t:aj)(x:O)(i:Nat):R O:=
 match tb.aB t,x with
 |some (.struct fs),.pointer (U a)=>
  match a.spot,fs.toList[i]? with
  |none,U f=>(aY tb f.type).bind λ n=>bif aL n 0 then .no 40 else .ok (.pointer (U (fi a f.offset)))
  |_,_=>.no 41
 |_,_=>.no 42
def dQ(tb:aO)(t:aj)(x i:O):R O:=
 match iC i with
 |.no w=>.no w
 |.ok i=>
  match tb.aB t,x with
  |some (.array len elem),.pointer (U a)=>
   match a.spot with
   |some _=>.no 43
   |none=>bif aM i len then(aY tb elem).bind λ n=>.ok (.pointer (U (fi a (i*n))))else .no 44
  |some (.slice elem),.slice (U a) len _=>
   match a.spot with
   |some _=>.no 45
   |none=>bif aM i len then(aY tb elem).bind λ n=>.ok (.pointer (U (fi a (i*n))))else .no 46
  |_,_=>.no 47
def cW:TypeDesc->Bool
 |.struct _|.array _ _=>aa
 |_=>af
def nS(tb:aO)(t:aj)(cs:List O)(off:Nat):R O:=
 match tb.aB t with
 |none=>.no 48
 |some d=>bif cW d then(aY tb t).bind λ n=>.ok (.agg ⟨(cs.drop off).take n⟩)
  else match cs[off]? with
   |some v=>.ok v
   |none=>.no 49
def Au(tb:aO)(t:aj)(x:O)(i:Nat):R O:=
 match tb.aB t,x with
 |some (.struct fs),.agg cs=>match fs.toList[i]? with
  |some f=>nS tb f.type cs.toList f.offset
  |none=>.no 50
 |_,_=>.no 51
def uS(tb:aO)(t:aj)(x i:O):R O:=
 match iC i with
 |.no w=>.no w
 |.ok i=>
  match tb.aB t,x with
  |some (.array len elem),.agg cs=>bif aM i len then(aY tb elem).bind λ n=>nS tb elem cs.toList (i*n)else .no 52
  |some .string,.string s=>match s.data.toList[i]? with
   |some b=>.ok (.int .u8 (.ofNat b.toNat))
   |none=>.no 53
  |_,_=>.no 54
def xJ(cells:List O)(off:Nat)(vs:List O):List O:=cells.take off++vs++cells.drop (off+Z vs)
def yZ(place:Nat->Option (Nat×Nat))(cells:List O):List (Nat×O)->Option (List O)
 | []=>U cells
 |(i,v)::rest=>
  match place i with
  |none=>Y
  |some (off,size)=>
   bif aL (Z v.cells.toList) size&&au (off+size) (Z cells)then yZ place (xJ cells off v.cells.toList) rest else Y
def Dn(tb:aO):List Field->R (List (Nat×Nat))
 | []=>.ok []
 |f::fs=>(aY tb f.type).bind λ n=>(Dn tb fs).bind λ l=>.ok ((f.offset,n)::l)
def cX(tb:aO)(t:aj):R O:=
 match tb.ty.get t with
 |some i=>match i.zero with
  |some v=>bif sk 3 v then .ok v else .no 55
  |none=>.no 55
 |none=>.no 56
def ef(tb:aO)(t:aj)(parts:List (Nat×O)):R O:=
 (cX tb t).bind λ zero=>
 match tb.aB t with
 |some (.struct fs)=>(Dn tb fs.toList).bind λ places=>
  match yZ (λ i=>places[i]?) zero.cells.toList parts with
  |some cells=>.ok (.agg ⟨cells⟩)
  |none=>.no 57
 |some (.array _ elem)=>(aY tb elem).bind λ n=>
  match yZ (λ i=>U (i*n,n)) zero.cells.toList parts with
  |some cells=>.ok (.agg ⟨cells⟩)
  |none=>.no 58
 |_=>.no 59
def iP(zero:List O):Nat->List O
 |0=>[]
 |n+1=>zero++iP zero n
def eR(tb:aO)(t:aj):R (Nat×List O):=
 (cX tb t).bind λ z=>(aY tb t).bind λ n=>bif aL (Z z.cells.toList) n then .ok (n,z.cells.toList)else .no 60
def pB(tb:aO)(src dst:aj)(x:O):R O:=
 match tb.aB src,tb.aB dst,x with
 |some _,U (.int k),.int _ n=>.ok (.int k (eP k n))
 |some _,U .string,.string s=>.ok (.string s)
 |_,_,_=>.no 61
def ax(tb:aO)(g:Nat->Option Ob)(t:aj)(x:O):R O:=
 match x with
 |.pointer (U a)=>
  match a.spot,g a.block,tb.aB t with
  |none,U (.cells _ _ _ c),U d=>
   bif cW d then(aY tb t).bind λ n=>match c.iX n a.off with
    |some l=>.ok (.agg ⟨l⟩)
    |none=>.no 70
   else match c.get a.off with
    |some v=>.ok v
    |none=>.no 71
  |_,_,_=>.no 72
 |_=>.no 73
def bytesOf:List O->R (List UInt8)
 | []=>.ok []
 |.int .u8 (.ofNat n)::vs=>(bytesOf vs).bind λ l=>.ok (lZ n::l)
 |_=>.no 74
def gO(g:Nat->Option Ob)(size n:Nat)(a:Option Addr):R (List O):=
 match a with
 |none=>.ok []
 |some a=>bif aL (n*size) 0 then .ok []else match a.spot,g a.block with
  |none,U (.cells _ _ _ c)=>match c.iX (n*size) a.off with
   |some l=>.ok l
   |none=>.no 75
  |_,_=>.no 76
def zt(g:Nat->Option Ob)(x:O):R O:=
 match x with
 |.slice Y _ _=>.ok (ag [])
 |.slice (U a) len _=>(gO g 1 len (U a)).bind λ vs=>(bytesOf vs).bind λ l=>.ok (ag l)
 |_=>.no 77
def xr(a b:O):Option Bool:=
 match a,b with
 |.int k x,.int k' y=>bif iA k k' then U (ky x y)else Y
 |.string x,.string y=>U (nt x.data.toList y.data.toList)
 |_,_=>Y
def findF(k:O):List MapEntry->Nat->Option (Option (Nat×O))
 | [],_=>U Y
 |e::es,i=>
  match xr k e.key with
  |some aa=>U (U (i,e.val))
  |some af=>findF k es (qA i)
  |none=>Y
def e_(tb:aO)(t:aj)(k:O):Bool:=
 match tb.aB t,k with
 |some (.int _),.int _ _=>aa
 |some .string,.string _=>aa
 |_,_=>af
def uK(g:Nat->Option Ob)(x:O):R (List MapEntry):=
 match x with
 |.map Y=>.ok []
 |.map (U r)=>match g r with
  |some (.map es _)=>.ok es
  |_=>.no 78
 |_=>.no 79
def oQ(tb:aO)(g:Nat->Option Ob)(t:aj)(x k:O)(ok:Bool):R O:=
 match tb.aB t with
 |some (.map key elem)=>
  bif e_ tb key k then(uK g x).bind λ es=>
   match findF k es 0 with
   |some (U (_,v))=>.ok (bif ok then .tuple ⟨[v,.bool aa]⟩else v)
   |some Y=>(cX tb elem).bind λ z=>.ok (bif ok then .tuple ⟨[z,.bool af]⟩else z)
   |none=>.no 80
  else .no 81
 |_=>.no 82
def ptrEq(g:Nat->Option Ob)(a b:Option Addr):R Bool:=
 match a,b with
 |none,Y=>.ok aa
 |none,U _=>.ok af
 |some _,Y=>.ok af
 |some a,U b=>
  match a.spot,b.spot with
  |none,Y=>
   bif aL a.block b.block then .ok (aL a.off b.off)
   else match g a.block,g b.block with
    |some (.cells _ (.var _) _ _),U (.cells _ (.var _) _ _)=>.ok af
    |_,_=>.no 83
  |_,_=>.no 84
def xf(tb:aO)(eq:aj->O->O->R Bool)(xs ys:List O):List Field->R Bool
 | []=>.ok aa
 |f::fs=>bif f.name== "_" then .no 85 else
  (nS tb f.type xs f.offset).bind λ a=>(nS tb f.type ys f.offset).bind λ b=>(eq f.type a b).bind λ
   |true=>xf tb eq xs ys fs
   |false=>.ok af
def CI(tb:aO)(eq:aj->O->O->R Bool)(elem:aj)(size:Nat)(xs ys:List O):(n i:Nat)->R Bool
 |0,_=>.ok aa
 |n+1,i=>
  (nS tb elem xs (i*size)).bind λ a=>(nS tb elem ys (i*size)).bind λ b=>(eq elem a b).bind λ
   |true=>CI tb eq elem size xs ys n (i+1)
   |false=>.ok af
def jV(tb:aO)(g:Nat->Option Ob):(d:Nat)->aj->O->O->R Bool
 |0,_,_,_=>.no 86
 |d+1,t,x,y=>
  match tb.aB t,x,y with
  |some .bool,.bool a,.bool b=>.ok (bif a then b else !b)
  |some (.int _),.int k a,.int k' b=>bif iA k k' then .ok (ky a b)else .no 87
  |some .string,.string a,.string b=>.ok (nt a.data.toList b.data.toList)
  |some (.pointer elem),.pointer a,.pointer b=>(aY tb elem).bind λ n=>match a,b with
   |some _,U _=>bif aL n 0 then .no 88 else ptrEq g a b
   |_,_=>ptrEq g a b
  |some (.interface _),.nilIface,.nilIface=>.ok aa
  |some (.interface _),.nilIface,.iface _ _=>.ok af
  |some (.interface _),.iface _ _,.nilIface=>.ok af
  |some (.interface _),.iface tx vx,.iface ty vy=>
   bif aL tx ty then
    match tb.ty.get tx with
    |some i=>bif i.comparable then jV tb g d tx vx vy else .no 89
    |none=>.no 90
   else .ok af
  |some (.struct fs),.agg xs,.agg ys=>
   bif tb.P.stoodInHeld t then .no 91 else xf tb (jV tb g d) xs.toList ys.toList fs.toList
  |some (.array len elem),.agg xs,.agg ys=>(aY tb elem).bind λ n=>CI tb (jV tb g d) elem n xs.toList ys.toList len 0
  |some (.slice _),.slice Y _ _,.slice b _ _=>.ok (Option.isNone b)
  |some (.slice _),.slice (U _) _ _,.slice Y _ _=>.ok af
  |some (.map _ _),.map Y,.map b=>.ok (Option.isNone b)
  |some (.map _ _),.map (U _),.map Y=>.ok af
  |some (.func _ _ _),.nilFunc,.nilFunc=>.ok aa
  |some (.func _ _ _),.nilFunc,.func _ _ _=>.ok af
  |some (.func _ _ _),.func _ _ _,.nilFunc=>.ok af
  |_,_,_=>.no 92
def C4:bA->Bool
 |.const _=>aa
 |_=>af
def wZ(tb:aO)(t:aj)(x y:bA)(a b:O):Bool:=
 match a,b with
 |.nilIface,.nilIface=>C4 x||C4 y
 |.agg _,.agg _=>!tb.P.eqGuardType tb.P.depth t
 |_,_=>aa
def gP(tb:aO)(g:Nat->Option Ob)(op:BinOp)(t:aj)(x y:bA)(a b:O):R O:=
 bif wZ tb t x y a b then
  match op with
  |.eql=>(jV tb g 100 t a b).bind λ r=>.ok (.bool r)
  |.neq=>(jV tb g 100 t a b).bind λ r=>.ok (.bool (!r))
  |_=>.no 93
 else .no 94
def xx(x y:O):R O:=
 match x,y with
 |.int k a,.int k' b=>bif iA k k' then .ok (.int k (bif mu a b then b else a))else .no 95
 |_,_=>.no 96
def xz(x y:O):R O:=
 match x,y with
 |.int k a,.int k' b=>bif iA k k' then .ok (.int k (bif mu b a then b else a))else .no 97
 |_,_=>.no 98
def nP(f:O->O->R O):O->List O->R O
 |x,[]=>.ok x
 |x,y::l=>(f x y).bind λ z=>nP f z l
def Ci(tb:aO)(x:O)(asserted:aj)(ok:Bool):R O:=
 let fails:R O:=bif ok then(cX tb asserted).bind λ z=>.ok (.tuple ⟨[z,.bool af]⟩)else .no 99
 let holds (v:O):R O:=.ok (bif ok then .tuple ⟨[v,.bool aa]⟩else v)
 match tb.aB asserted,x with
 |some (.interface _),.nilIface=>fails
 |some (.interface want),.iface t _=>
  match tb.ty.get t with
  |some i=>match Instr.missingMethod want i.methods with
   |none=>holds x
   |some _=>fails
  |none=>.no 100
 |some _,.nilIface=>fails
 |some _,.iface t v=>bif aL t asserted then holds v else fails
 |none,_=>.no 101
 |some _,_=>.no 102
inductive Way where
 |ptr
 |dy (len cap:Nat)
 |mp
def Way.at(w:Way)(b:Nat):O:=
 match w with
 |.ptr=>.pointer (U ⟨b,0,Y⟩)
 |.dy len cap=>.slice (U ⟨b,0,Y⟩) len cap
 |.mp=>.map (U b)
def ae(t:aj)(l:List O):Ob:=.cells t (.var (Z l)) 0 (T.bP .e 0 l)
def eo(tb:aO)(t:aj)(len:Nat)(parts:List (Nat×O)):R (Ob×Way):=
 match tb.aB t with
 |some (.slice elem)=>(eR tb elem).bind λ(n,zero)=>
  bif au (len*n) 16777216 then
   match yZ (λ i=>U (i*n,n)) (iP zero len) parts with
   |some cells=>.ok (ae elem cells,.dy len (2*len))
   |none=>.no 110
  else .no 111
 |_=>.no 112
def qY(tb:aO)(t:aj)(len cap:O):R (Ob×Way):=
 match tb.aB t with
 |some (.slice elem)=>(iC len).bind λ l=>(iC cap).bind λ c=>(eR tb elem).bind λ(_,zero)=>
  match tb.ty.get elem with
  |some i=>bif au l c&&au c 1048576&&au i.bytes 1048576 then .ok (ae elem (iP zero c),.dy l (2*c))else .no 113
  |none=>.no 114
 |_=>.no 115
def gd(b:UInt8):O:=.int .u8 (.ofNat b.toNat)
def zq(tb:aO)(src dst:aj)(x:O):R (Ob×Way):=
 match tb.aB src,tb.aB dst,x with
 |some .string,U (.slice e),.string s=>
  match tb.aB e with
  |some (.int .u8)=>bif aM (Z s.data.toList) 4294967296 then
   .ok (.cells e .mark 0 (T.bP .e 0 (s.data.toList.map gd)),.dy (Z s.data.toList) (cu (Z s.data.toList) 1))else .no 116
  |_=>.no 117
 |_,_,_=>.no 118
def tP(tb:aO)(t:aj)(reserve:Option O):R (Ob×Way):=
 match reserve with
 |none=>.ok (.map [] 0,.mp)
 |some v=>match tb.aB t,v with
  |some (.map _ _),.int _ _=>.ok (.map [] 0,.mp)
  |_,_=>.no 119
def bI(v:O):Bool:=
 match v with
 |.agg _|.tuple _=>af
 |_=>aa
def nW(m fz:Nat):List O->Nat->T O->R (T O)
 | [],_,c=>.ok c
 |v::vs,i,c=>bif bI v&&au fz i then
  match c.get i with
  |some _=>nW m fz vs (qA i) (c.set i v)
  |none=>bif aM i m then nW m fz vs (qA i) (c.set i v)else .no 120
  else .no 121
def AU:Kd->Nat
 |.room n=>n
 |_=>0
def kQ(A:Mem)(a:Addr)(vs:List O):R Mem:=
 match vs with
 | []=>.ok A
 |vs=>match a.spot,A.get a.block with
  |none,U (.cells t x fz c)=>(nW (AU x) fz vs a.off c).bind λ c'=>.ok (A.set a.block (.cells t x fz c'))
  |_,_=>.no 122
def bX(tb:aO)(A:Mem)(t:aj)(x v:O):R Mem:=
 match x with
 |.pointer (U a)=>(aY tb t).bind λ n=>bif aL (Z v.cells.toList) n then kQ A a v.cells.toList else .no 123
 |_=>.no 124
def fu(x:O):R Nat:=
 match x with
 |.slice _ n _=>.ok n
 |.string s=>.ok (Z s.data.toList)
 |_=>.no 125
def ib(g:Nat->Option Ob)(size n:Nat)(x:O):R (List O):=
 match x with
 |.slice a _ _=>gO g size n a
 |.string s=>bif aL size 1 then .ok ((s.data.toList.take n).map gd)else .no 126
 |_=>.no 126
def jx:TypeDesc->Bool
 |.int _=>aa
 |_=>af
def gx(tb:aO)(A:Mem)(elem:aj)(base:Option Addr)(len cap size n:Nat)(new:List O):R (O×Mem):=
 bif au (len+n) (bH cap)then
  match base with
  |none=>.ok (.slice Y 0 0,A)
  |some a=>match a.spot with
   |some _=>.no 128
   |none=>(kQ A (fi a (len*size)) new).bind λ A'=>.ok (.slice (U a) (len+n) cap,A')
 else
  match tb.ty.get elem with
  |none=>.no 129
  |some i=>
   bif au (len+n) 16777216&&au i.bytes 65536&&aM 0 i.bytes&&aM 0 size&&aM size 65536 then
    (gO A.get size len base).bind λ old=>
    let v:O:=.slice (U ⟨A.next,0,Y⟩) (len+n) (cu (len+n) size)
    bif dH cap then .ok (v,A.alloc (.cells elem .row 0 (T.bP .e 0 (old++new))))
    else match base with
     |some a=>bif aL (gM cap) size&&new.all bI then
      match a.spot,A.get a.block with
      |none,U (.cells t x fz _)=>bif au fz (a.off+len*size)&&(aL t elem&&aM fz 9223372036854775808)then
       match x with
       |.var _=>.no 130
       |.room _=>.no 130
       |x=>.ok (v,(A.set a.block .dead).alloc (.cells elem x (fz-a.off) (T.bP .e 0 (old++new))))
       else .no 130
      |_,_=>.no 131
      else .no 132
     |none=>.no 133
   else .no 134
def Ew(tb:aO)(A:Mem)(elem:aj)(base:Option Addr)(len cap:Nat)(x:O):R (O×Mem):=
 (eR tb elem).bind λ(size,zero)=>(iC x).bind λ n=>
 match tb.ty.get elem with
 |none=>.no 137
 |some i=>bif au n 16777216&&au i.bytes 65536 then gx tb A elem base len cap size n (iP zero n)else .no 127
def dm(tb:aO)(A:Mem)(st:aj)(xt:aj)(s x:O):R (O×Mem):=
 match tb.aB st,s,tb.aB xt with
 |some (.slice elem),.slice base len cap,U xd=>
  bif jx xd then Ew tb A elem base len cap x else
  (eR tb elem).bind λ(size,_)=>(fu x).bind λ n=>(ib A.get size n x).bind λ new=>gx tb A elem base len cap size n new
 |_,_,_=>.no 135
def yR(tb:aO)(A:Mem)(dt:aj)(d s:O):R (O×Mem):=
 match tb.aB dt,d with
 |some (.slice elem),.slice base dl _=>(aY tb elem).bind λ size=>(fu s).bind λ sl=>
  let n:=bif au sl dl then sl else dl
  (ib A.get size n s).bind λ l=>
  match base with
  |none=>.ok (.int .i64 (.ofNat n),A)
  |some a=>(kQ A a l).bind λ A'=>.ok (.int .i64 (.ofNat n),A')
 |_,_=>.no 136
def cL:O:=.tuple ⟨[]⟩
def EY(tb:aO)(A:Mem)(t:aj)(x:O):R (O×Mem):=
 match tb.aB t,x with
 |some _,.map Y=>.ok (cL,A)
 |some _,.map (U r)=>match A.get r with
  |some (.map _ clock)=>.ok (cL,A.set r (.map [] clock))
  |_=>.no 137
 |some _,.slice Y _ _=>.ok (cL,A)
 |some (.slice elem),.slice (U a) n _=>bif aL n 0 then .ok (cL,A)else
  (eR tb elem).bind λ(_,zero)=>(kQ A a (iP zero n)).bind λ A'=>.ok (cL,A')
 |_,_=>.no 138
def zx(tb:aO)(A:Mem)(pt:aj)(x n:O):R (O×Mem):=
 (iC n).bind λ n=>
 match x,tb.aB pt with
 |.pointer (U a),U (.pointer e)=>
  match a.spot,A.get a.block,tb.aB e with
  |none,U (.cells t k fz c),U (.int .u8)=>(aY tb e).bind λ size=>
   bif aL t e&&aL size 1&&aM 0 n&&au n 16777216&&(aM fz 9223372036854775808&&aM (a.off+n) 9223372036854775808)then
    match c.iX n a.off with
    |some vs=>match k with
     |.mark=>.no 155
     |_=>(bytesOf vs).bind λ l=>.ok (ag l,A.set a.block (.cells t .row (bif au fz (a.off+n)then a.off+n else fz) c))
    |none=>.no 151
   else .no 152
  |_,_,_=>.no 153
 |.pointer Y,_=>bif aL n 0 then .ok (ag [],A)else .no 154
 |_,_=>.no 154
def KX(es:List MapEntry)(i:Nat)(k v:O):List MapEntry:=
 match es,i with
 | [],_=>[]
 |e::es,0=>{e with key:=k,val:=v}::es
 |e::es,i+1=>e::KX es i k v
def Aj(es:List MapEntry)(i:Nat):List MapEntry:=
 match es,i with
 | [],_=>[]
 |_::es,0=>es
 |e::es,i+1=>e::Aj es i
def mw(tb:aO)(A:Mem)(t:aj)(m k v:O):R Mem:=
 match tb.aB t,m with
 |some (.map kt _),.map (U r)=>
  bif e_ tb kt k then
   match A.get r with
   |some (.map es clock)=>match findF k es 0 with
    |some (U (i,_))=>.ok (A.set r (.map (KX es i k v) clock))
    |some Y=>.ok (A.set r (.map (es++[{key:=k,val:=v,born:=clock}]) (clock+1)))
    |none=>.no 139
   |_=>.no 140
  else .no 141
 |_,_=>.no 142
def Ai(tb:aO)(A:Mem)(t:aj)(m k:O):R (O×Mem):=
 match tb.aB t,m with
 |some (.map kt _),.map Y=>bif e_ tb kt k then .ok (cL,A)else .no 143
 |some (.map kt _),.map (U r)=>
  bif e_ tb kt k then
   match A.get r with
   |some (.map es clock)=>match findF k es 0 with
    |some (U (i,_))=>.ok (cL,A.set r (.map (Aj es i) clock))
    |some Y=>.ok (cL,A.set r (.map es clock))
    |none=>.no 144
   |_=>.no 145
  else .no 146
 |_,_=>.no 147
def qn(tb:aO)(A:Mem)(t:aj)(x:O):R (O×Mem):=
 match tb.aB t,x with
 |some .string,.string s=>.ok (.pointer (U ⟨A.next,0,Y⟩),A.alloc (.sit s 0))
 |some (.map _ _),.map (U r)=>match A.get r with
  |some (.map _ c)=>.ok (.pointer (U ⟨A.next,0,Y⟩),A.alloc (.mit r c Y))
  |_=>.no 148
 |some (.map _ _),.map Y=>.ok (.pointer (U ⟨A.next,0,Y⟩),A.alloc .nit)
 |_,_=>.no 148
def y9(A:Mem)(x:O)(isString:Bool):R (O×Mem):=
 match x,isString with
 |.pointer (U ⟨r,0,Y⟩),aa=>match A.get r with
  |some (.sit s pos)=>
   bif aM pos s.size then
    let cw:=Utf8.decode s pos
    .ok (.tuple ⟨[.bool aa,goInt pos,.int .i32 cw.1]⟩,A.set r (.sit s (pos+cw.2)))
   else .ok (.tuple ⟨[.bool af]⟩,A)
  |_=>.no 149
 |.pointer (U ⟨r,0,Y⟩),af=>match A.get r with
  |some (.mit m c b)=>match A.get m with
   |some (.map [e] k)=>bif aL k c&&aM e.born c then match b with
    |none=>.ok (.tuple ⟨[.bool aa,e.key,e.val]⟩,A.set r (.mit m c (U e.born)))
    |some x=>bif aL x e.born then .ok (.tuple ⟨[.bool af]⟩,A)else .no 149
    else .no 149
   |_=>.no 149
  |some .nit=>.ok (.tuple ⟨[.bool af]⟩,A)
  |_=>.no 149
 |_,_=>.no 150
def E9(A:Mem)(x:O):R (O×Mem):=
 match x with
 |.pointer (U ⟨r,0,Y⟩)=>match A.get r with
  |some (.mit m c (U x))=>match A.get m with
   |some (.map [e] k)=>bif aL k c&&aL x e.born then .ok (.tuple ⟨[e.key,e.val]⟩,A)else .no 149
   |_=>.no 149
  |_=>.no 149
 |_=>.no 150
inductive Pl where
 |val (v:O)
 |var (a:Addr)
def Pl.get(tb:aO)(g:Nat->Option Ob)(t:aj)(x:Pl):R O:=
 match x with
 |.val v=>.ok v
 |.var a=>ax tb g t (.pointer (U a))
def xg(tb:aO)(g:Nat->Option Ob):List FieldStep->aj->Pl->R (aj×Pl)
 | [],t,x=>.ok (t,x)
 |s::rest,t,x=>
  match tb.aB s.struct with
  |some (.struct fs)=>match fs.toList[s.index]? with
   |some f=>(aY tb f.type).bind λ n=>
    match s.deref with
    |true=>(x.get tb g t).bind λ v=>match v with
     |.pointer (U a)=>match a.spot with
      |none=>bif aL n 0 then .no 160 else xg tb g rest f.type (.var (fi a f.offset))
      |some _=>.no 161
     |_=>.no 162
    |false=>match x with
     |.var a=>match a.spot with
      |none=>bif aL n 0 then .no 163 else xg tb g rest f.type (.var (fi a f.offset))
      |some _=>.no 164
     |.val (.agg cs)=>(nS tb f.type cs.toList f.offset).bind λ v=>xg tb g rest f.type (.val v)
     |.val _=>.no 165
   |none=>.no 166
  |_=>.no 167
def Gd(tb:aO)(g:Nat->Option Ob)(xt:aj)(x:Pl)(ptr:Bool):R O:=
 match tb.aB xt,ptr,x with
 |some (.pointer _),aa,x=>x.get tb g xt
 |some (.pointer elem),af,x=>(x.get tb g xt).bind λ v=>match v with
  |.pointer (U a)=>ax tb g elem (.pointer (U a))
  |_=>.no 168
 |some _,aa,.var a=>.ok (.pointer (U a))
 |some _,aa,.val _=>.no 169
 |some _,af,x=>x.get tb g xt
 |none,_,_=>.no 170
def FZ(tb:aO)(g:Nat->Option Ob):Nat->aj->O->String->R (FuncId×O)
 |0,_,_,_=>.no 171
 |d+1,t,v,name=>
  match tb.ty.get t with
  |none=>.no 172
  |some i=>match i.methods.toList.find? (λ m=>m.name==name)with
   |none=>.no 173
   |some m=>(xg tb g m.path.toList t (.val v)).bind λ(xt,x)=>
    match m.func with
    |none=>(x.get tb g xt).bind λ w=>match w with
     |.iface t' v'=>FZ tb g d t' v' name
     |_=>.no 174
    |some (f,ptr)=>(Gd tb g xt x ptr).bind λ r=>.ok (f,r)
inductive Cl where
 |fn (f:FuncId) (args:List O)
 |round (l:Nat) (args:List O)
def tQ(tb:aO)(g:Nat->Option Ob)(recv:O)(name:String)(args:List O):R Cl:=
 match recv with
 |.iface t v=>(FZ tb g 100 t v name).bind λ(f,r)=>.ok (.fn f (r::args))
 |_=>.no 180
def tK(tb:aO)(g:Nat->Option Ob)(v:O)(args:List O):R Cl:=
 match v with
 |.func (.func f) first captured=>.ok (.fn f (first.toList++args++captured.toList))
 |.func (.yield l) _ _=>.ok (.round l args)
 |.func (.method name) first _=>match first.toList++args with
  |recv::args=>tQ tb g recv name args
  | []=>.no 181
 |.func (.methodOf t name) first _=>match first.toList++args with
  |recv::args=>match tb.aB t with
   |some (.interface _)=>tQ tb g recv name args
   |some _=>tQ tb g (.iface t recv) name args
   |none=>.no 182
  | []=>.no 183
 |.func (.via t path f ptr) first _=>match first.toList++args with
  |x::args=>(xg tb g path.toList t (.val x)).bind λ(xt,x)=>(Gd tb g xt x ptr).bind λ r=>.ok (.fn f (r::args))
  | []=>.no 184
 |_=>.no 185
def xe{β:Type}(n:Nat)(k:Nat->β):β:=Nat.rec (motive:=λ _=>β) (k 0) (λ m _=>k (qA m)) n
def Jo{β:Type}(n:Int)(k:Int->β)(fn:Nat->(Nat->β)->β):β:=
 match n with
 |.ofNat m=>fn m λ m=>k (.ofNat m)
 |.negSucc m=>fn m λ m=>k (.negSucc m)
def Ft{β:Type}(a:Addr)(k:Addr->β):β:=
 match a with
 |⟨b,o,Y⟩=>xe b λ b=>xe o λ o=>k ⟨b,o,Y⟩
 |a=>k a
def Ol{α β:Type}(l:List α)(k:List α->β):β:=
 List.rec (λ k=>k []) (λ x _ ih k=>ih λ l=>k (x::l)) l k
def Jp{β:Type}(v:O)(k:O->β):β:=
 match v with
 |.int kd n=>Jo n (λ n=>k (.int kd n)) xe
 |.bool aa=>k (.bool aa)
 |.bool af=>k (.bool af)
 |.pointer (U a)=>Ft a λ a=>k (.pointer (U a))
 |.slice (U a) len cap=>Ft a λ a=>xe len λ len=>xe cap λ cap=>k (.slice (U a) len cap)
 |.agg ⟨l⟩=>Ol l λ l=>k (.agg ⟨l⟩)
 |v=>k v
def Fu{β:Type}(n:Nat)(k:Nat->β):xe n k=k n:=by cases n<;>rfl
def ZL{α β:Type}(l:List α):∀(k:List α->β),Ol l k=k l:=by
 induction l with
 |nil=>exact λ _=>rfl
 |cons x l ih=>exact λ k=>ih _
def ZK{β:Type}(n:Int)(k:Int->β):Jo n k xe=k n:=by cases n<;>simp[Jo,Fu]
def ZJ{β:Type}(a:Addr)(k:Addr->β):Ft a k=k a:=by
 obtain⟨b,o,s⟩:=a;cases s<;>simp[Ft,Fu]
def Jq{β:Type}(v:O)(k:O->β):Jp v k=k v:=by
 unfold Jp;split<;>simp[ZK,ZJ,Fu,ZL]
structure St where
 t:T O
 n:Nat
 d:List Nat
 m:Mem
 ro:Option Nat
inductive Ex where
 |nrm
 |exit (id:Nat)
 |ret
 |dR (v:O)
def ev(t:T O)(x:bA):R O:=
 match x with
 |.tmp i=>match t.get i with
  |some v=>.ok v
  |none=>.no 200
 |.const v=>bif sk 3 v then .ok v else .no 199
 |.func f=>.ok (.func (.func f) ⟨[]⟩ ⟨[]⟩)
 |.global _=>.no 201
def eI(t:T O):List bA->R (List O)
 | []=>.ok []
 |x::xs=>(ev t x).bind λ v=>(eI t xs).bind λ vs=>.ok (v::vs)
def mQ(t:T O)(x:Option bA):R (Option O):=
 match x with
 |none=>.ok Y
 |some x=>(ev t x).bind λ v=>.ok (U v)
def oM(t:T O):List (Nat×bA)->R (List (Nat×O))
 | []=>.ok []
 |(i,x)::xs=>(ev t x).bind λ v=>(oM t xs).bind λ vs=>.ok ((i,v)::vs)
inductive LS where
 |P|Rd|Al|L
 deriving DecidableEq
def tv:Option TypeDesc->Bool
 |some .bool|some (.int _)|some .string=>aa
 |_=>af
def cls(tb:aO)(o:Op):LS:=
 match o with
 |.indexAddr _ x _=>match x with
  |.global _=>.Rd
  |_=>.P
 |.move _|.assign _|.pick ..|.build ..|.unOp ..|.makeInterface ..|.makeFunc ..|.fieldAddr ..|.field ..|.index ..|.extract ..
 |.slice ..|.typeAssert ..|.nilCheck _=>.P
 |.binOp op t _ _ _=>match op with
  |.eql|.neq=>bif tv (tb.aB t)then .P else .Rd
  |_=>.P
 |.convert s d _=>match tb.aB s,tb.aB d with
  |some .string,U (.slice _)=>.Al
  |some (.slice _),U .string=>.Rd
  |some (.pointer _),_=>.Rd
  |some .unsafePointer,_=>.Rd
  |_,_=>.P
 |.load ..|.lookup ..=>.Rd
 |.alloc _|.box ..|.buildSlice ..|.makeMap ..|.makeSlice ..=>.Al
 |.call c=>match c.callee with
  |.builtin b=>match b with
   |.cap|.min|.max=>.P
   |.unsafeSliceData=>.P
   |.len=>match c.argTypes.toList with
    |t::_=>match tb.aB t with
     |some (.map _ _)=>.Rd
     |_=>.P
    | []=>.L
   |_=>.L
  |_=>.L
 |_=>.L
def C9(tb:aO)(t:aj)(x:O):R O:=
 match tb.aB t,x with
 |some .string,.string s=>.ok (.int .i64 (.ofNat (Z s.data.toList)))
 |some (.array n _),_=>.ok (.int .i64 (.ofNat n))
 |some (.slice _),.slice _ n _=>.ok (.int .i64 (.ofNat n))
 |some (.slice _),.complex .f32 0 0=>.ok (.int .i64 (.ofNat 0))
 |_,_=>.no 202
def IK(tb:aO)(t:aj)(x:O):R O:=
 match tb.aB t,x with
 |some (.array n _),_=>.ok (.int .i64 (.ofNat n))
 |some (.slice _),.slice _ _ c=>bif dH c then .ok (.int .i64 (.ofNat (bH c)))else .ok (Tp (bH c))
 |_,_=>.no 204
def cQ(tb:aO)(b:Builtin)(ts:List aj)(args:List O):R O:=
 match b,ts,args with
 |.len,t::_,x::_=>C9 tb t x
 |.cap,t::_,x::_=>IK tb t x
 |.min,_,x::l=>nP xz x l
 |.max,_,x::l=>nP xx x l
 |.unsafeSliceData,_,[.slice (U a) _ c]=>bif aM 0 (bH c)then .ok (.pointer (U a))else .no 205
 |.unsafeSliceData,_,[.slice Y _ _]=>.ok (.pointer Y)
 |_,_,_=>.no 206
def gT(tb:aO)(t:T O)(o:Op):R O:=
 match o with
 |.move x=>ev t x
 |.assign x=>ev t x
 |.pick c a b=>(ev t c).bind λ c=>match c with
  |.bool aa=>ev t a
  |.bool af=>ev t b
  |_=>.no 207
 |.build ty ps=>(oM t ps.toList).bind λ ps=>ef tb ty ps
 |.unOp op _ x=>(ev t x).bind λ x=>Bi op x
 |.makeInterface ty x=>(ev t x).bind λ x=>match tb.aB ty with
  |some (.interface _)=>.no 208
  |some _=>.ok (.iface ty x)
  |none=>.no 209
 |.makeFunc fn a b=>(eI t a.toList).bind λ a=>(eI t b.toList).bind λ b=>match fn with
  |.yield _=>.no 210
  |fn=>.ok (.func fn ⟨a⟩ ⟨b⟩)
 |.fieldAddr ty x i=>(ev t x).bind λ x=>bM tb ty x i
 |.field ty x i=>(ev t x).bind λ x=>Au tb ty x i
 |.indexAddr ty x i=>(ev t x).bind λ x=>(ev t i).bind λ i=>dQ tb ty x i
 |.index ty x i=>(ev t x).bind λ x=>(ev t i).bind λ i=>uS tb ty x i
 |.extract x i=>(ev t x).bind λ x=>match x with
  |.tuple vs=>match vs.toList[i]? with
   |some v=>.ok v
   |none=>.no 211
  |_=>.no 212
 |.slice ty x lo hi mx=>(ev t x).bind λ x=>(mQ t lo).bind λ lo=>(mQ t hi).bind λ hi=>(mQ t mx).bind λ mx=>eD tb ty x lo hi mx
 |.typeAssert x _ ty ok=>(ev t x).bind λ x=>Ci tb x ty ok
 |.nilCheck x=>(ev t x).bind λ x=>match x with
  |.pointer (U a)=>.ok (.pointer (U a))
  |.iface a b=>.ok (.iface a b)
  |.map a=>.ok (.map a)
  |.func (.func f) a b=>.ok (.func (.func f) a b)
  |.func (.yield f) a b=>.ok (.func (.yield f) a b)
  |_=>.no 213
 |.binOp op ty x y _=>(ev t x).bind λ x=>(ev t y).bind λ y=>iu op (tb.aB ty) x y
 |.convert s d x=>(ev t x).bind λ x=>pB tb s d x
 |.call c=>match c.callee with
  |.builtin b=>(eI t c.args.toList).bind λ args=>cQ tb b c.argTypes.toList args
  |_=>.no 214
 |_=>.no 215
def gN(tb:aO)(g:Nat->Option Ob)(s d:aj)(x:O):R O:=
 match tb.aB s,tb.aB d,x with
 |some (.slice e),U .string,x=>match tb.aB e with
  |some (.int .u8)=>zt g x
  |_=>.no 216
 |some (.pointer ty),U .unsafePointer,.pointer (U a)=>match a.spot,g a.block with
  |none,U (.cells _ (.var n) _ _)=>(aY tb ty).bind λ sz=>bif aM a.off n&&aM 0 sz then .ok (.pointer (U a))else .no 217
  |_,_=>.no 218
 |some .unsafePointer,U (.pointer ty),.pointer (U a)=>match a.spot,g a.block with
  |none,U (.cells e (.var n) _ _)=>(aY tb ty).bind λ _=>bif liesAt tb.P tb.P.depth e (n/tb.P.cellsOf e) a.off ty 1 then .ok (.pointer (U a))else .no 219
  |_,_=>.no 220
 |_,_,_=>.no 221
def eB(tb:aO)(t:T O)(g:Nat->Option Ob)(o:Op):R O:=
 match o with
 |.load ty x=>match x with
  |.global k=>(FE g k).bind λ x=>ax tb g ty x
  |x=>(ev t x).bind λ x=>ax tb g ty x
 |.indexAddr ty x i=>match x with
  |.global k=>(FE g k).bind λ x=>(ev t i).bind λ i=>dQ tb ty x i
  |_=>.no 224
 |.lookup ty x k ok=>(ev t x).bind λ x=>(ev t k).bind λ k=>oQ tb g ty x k ok
 |.binOp op ty x y _=>(ev t x).bind λ a=>(ev t y).bind λ b=>gP tb g op ty x y a b
 |.convert s d x=>(ev t x).bind λ x=>gN tb g s d x
 |.call c=>match c.callee with
  |.builtin .len=>(eI t c.args.toList).bind λ args=>match args with
   |x::_=>(uK g x).bind λ es=>.ok (.int .i64 (.ofNat (Z es)))
   | []=>.no 222
  |_=>.no 223
 |_=>.no 224
def l_(tb:aO)(t:T O)(o:Op):R (Ob×Way):=
 match o with
 |.alloc e=>(cX tb e).bind λ z=>.ok (ae e z.cells.toList,.ptr)
 |.box e x=>(ev t x).bind λ v=>.ok (ae e v.cells.toList,.ptr)
 |.buildSlice ty len ps=>(oM t ps.toList).bind λ ps=>eo tb ty len ps
 |.makeMap ty r=>(mQ t r).bind λ r=>tP tb ty r
 |.makeSlice ty l c=>(ev t l).bind λ l=>(ev t c).bind λ c=>qY tb ty l c
 |.convert s d x=>(ev t x).bind λ x=>zq tb s d x
 |_=>.no 225
inductive nh where
 |val (v:O) (m:Mem)
 |dR (v:O) (m:Mem)
def tD(tb:aO)(A:Mem)(b:Builtin)(ts:List aj)(args:List O):R (O×Mem):=
 match b,ts,args with
 |.append,st::xt::_,s::x::_=>dm tb A st xt s x
 |.copy,dt::_,d::s::_=>yR tb A dt d s
 |.clear,ty::_,x::_=>EY tb A ty x
 |.delete,ty::_,m::k::_=>Ai tb A ty m k
 |.unsafeString,ty::_,[x,n]=>zx tb A ty x n
 |_,_,_=>.no 226
def jX(tb:aO)(t:T O)(A:Mem)(o:Op):R (O×Mem):=
 match o with
 |.store ty x v=>(ev t x).bind λ x=>(ev t v).bind λ v=>(bX tb A ty x v).bind λ A'=>.ok (cL,A')
 |.mapUpdate ty m k v=>(ev t m).bind λ m=>(ev t k).bind λ k=>(ev t v).bind λ v=>(mw tb A ty m k v).bind λ A'=>.ok (cL,A')
 |.insert ty m k v=>(ev t m).bind λ m=>(ev t k).bind λ k=>(ev t v).bind λ v=>(mw tb A ty m k v).bind λ A'=>.ok (cL,A')
 |.range ty x=>(ev t x).bind λ x=>qn tb A ty x
 |.next x isS=>(ev t x).bind λ x=>y9 A x isS
 |.entry x=>(ev t x).bind λ x=>E9 A x
 |.call c=>match c.callee with
  |.builtin b=>(eI t c.args.toList).bind λ args=>tD tb A b c.argTypes.toList args
  |_=>.no 227
 |_=>.no 228
def Ml(A:Mem)(a b:Addr):R Unit:=
 match a.spot,b.spot,A.get a.block,A.get b.block with
 |none,Y,U (.cells _ (.var _) _ _),U (.cells _ _ _ c)=>match c.get 0 with
  |some _=>bif aL a.block b.block then .no 230 else .ok ()
  |none=>.no 230
 |_,_,_,_=>.no 231
def yS(c:Nat):List UInt8->Nat->Nat
 | [],n=>n
 |x::l,n=>bif aL x.toNat c then yS c l (n+1)else yS c l n
def Dm(c:Nat):List UInt8->Nat->Int
 | [],_=>.negSucc 0
 |x::l,n=>bif aL x.toNat c then .ofNat n else Dm c l (n+1)
def Jd(tb:aO)(k:Nat)(fn:Func)(args:List O)(A:Mem):R (O×Mem):=
 match k,args with
 |1,[x]=>.ok (x,A)
 |2,[.slice (U a) _ _,.slice (U b) _ _]=>match fn.params.toList,fn.resultTypes.toList with
  | [p,q],[_]=>match tb.aB p with
   |some (.slice e)=>(aY tb e).bind λ _=>bif aL p q then(Ml A a b).bind λ _=>.ok (.bool af,A)else .no 231
   |_=>.no 232
  |_,_=>.no 233
 |3,[.int .i64 (.ofNat n)]=>match fn.resultTypes.toList with
  |p::_=>match tb.aB p with
   |some (.slice e)=>bif au n 1048576&&(match tb.aB e with|some (.int .u8)=>aa|_=>af)then
    .ok (.slice (U ⟨A.next,0,Y⟩) n (cu n 1),A.alloc (.cells e .row 0 (T.bP .e 0 (fq n (.chan (U 0))))))else .no 234
   |_=>.no 235
  | []=>.no 236
 |4,[.iface t (.map (U r))]=>match A.get r with
  |some (.map es clock)=>.ok (.iface t (.map (U A.next)),A.alloc (.map es clock))
  |_=>.no 237
 |5,[.int .u64 (.ofNat x),.int .u64 (.ofNat y),.int .u64 (.ofNat c)]=>bif au c 1 then
  .ok (.tuple ⟨[.int .u64 (.ofNat ((x+y+c) % 18446744073709551616)),.int .u64 (.ofNat ((x+y+c)/18446744073709551616))]⟩,A)else .no 260
 |6,[.string s,.int .u8 (.ofNat c)]=>bif aM c 256 then .ok (.int .i64 (.ofNat (yS c s.data.toList 0)),A)else .no 261
 |7,[.string s,.int .u8 (.ofNat c)]=>bif aM c 256 then .ok (.int .i64 (Dm c s.data.toList 0),A)else .no 262
 |_,_=>.no 238
def eC(tb:aO)(t:T O)(g:Nat->Option Ob):List ResultVar->R (List O)
 | []=>.ok []
 |.tmp i::rs=>(ev t (.tmp i)).bind λ v=>(eC tb t g rs).bind λ vs=>.ok (v::vs)
 |.cell i ty::rs=>(ev t (.tmp i)).bind λ a=>(ax tb g ty a).bind λ v=>(eC tb t g rs).bind λ vs=>.ok (v::vs)
def oneOf(vs:List O):O:=
 match vs with
 | [v]=>v
 |vs=>.tuple ⟨vs⟩
def gU:List Nat->Mem->R Mem
 | [],A=>.ok A
 |b::bs,A=>match A.get b with
  |some .defd=>gU bs (A.set b .dead)
  |_=>.no 240
def setArgs(n:Nat):List Tmp->List O->T O->R (T O)
 | [],[],t=>.ok t
 |p::ps,v::vs,t=>bif aM p n then setArgs n ps vs (t.set p v)else .no 241
 |_,_,_=>.no 242
section
variable (tb:aO)(ih:aH->St->R (Ex×St))
def vc(l:Nat)(args:List O)(A:Mem):R nh:=
 match A.get l with
 |some (.loop r)=>
  (setArgs r.n r.params args r.tmps).bind λ t=>
  (ih r.assign {t,n:=r.n,d:=[],m:=A,ro:=U l}).bind λ(e,s1)=>
  match e,s1.m.get l with
  |.nrm,U (.loop r1)=>
   match r1.state with
   |.ready=>
    (ih r.body {s1 with m:=s1.m.set l (.loop {r1 with state:=.busy})}).bind λ(e,s2)=>
    match e,s2.d,s2.m.get l with
    |.nrm,[],U (.loop r2)=>.ok (.val (.bool aa) (s2.m.set l (.loop {r2 with state:=.ready,pending:=Y})))
    |.exit id,[],U (.loop r2)=>.ok (.val (.bool af) (s2.m.set l (.loop {r2 with state:=.done,pending:=U (.exit id)})))
    |.ret,[],U (.loop r2)=>.ok (.val (.bool af) (s2.m.set l (.loop {r2 with state:=.done,pending:=U .ret})))
    |_,_,_=>.no 243
   |_=>.no 244
  |_,_=>.no 245
 |_=>.no 246
def uC(fn:Func)(c:aH)(args:List O)(A:Mem):R nh:=
 bif au (Z args) fn.ntmps then
  (ih c {t:=T.bP .e 0 args,n:=fn.ntmps,d:=[],m:=A,ro:=Y}).bind λ(e,s)=>
  match e with
  |.dR v=>match s.d with
   | []=>.ok (.dR v s.m)
   |_=>.no 239
  |.exit _=>.no 248
  |_=>(gU s.d s.m).bind λ A'=>(eC tb s.t A'.get fn.results.toList).bind λ vs=>.ok (.val (oneOf vs) A')
 else .no 249
def cH(c:Cl)(A:Mem):R nh:=
 match c with
 |.round l args=>vc ih l args A
 |.fn f args=>match tb.fn.get f with
  |none=>.no 247
  |some fn=>bif fn.name== "runtime.NumGoroutine" then .no 256 else match fn.body with
   |none=>match tb.ex.get f with
    |some k=>(Jd tb k fn args A).bind λ(v,A')=>.ok (.val v A')
    |none=>.no (1000+f)
   |some c=>match tb.hk.get f with
    |some h=>(h args A).bind λ(v,A')=>.ok (.val v A')
    |none=>uC tb ih fn c args A
def bS(s:St)(dst:Option Tmp)(v:O)(k:St->R (Ex×St)):R (Ex×St):=
 match dst with
 |none=>k s
 |some d=>bif aM d s.n then Jp v λ v=>k {s with t:=s.t.set d v}else .no 250
def qc(t:T O)(g:Nat->Option Ob)(c:Call):R Cl:=
 (eI t c.args.toList).bind λ args=>
 match c.callee with
 |.value f=>(ev t f).bind λ f=>tK tb g f args
 |.invoke r name=>(ev t r).bind λ r=>tQ tb g r name args
 |.builtin _=>.no 251
def qf(o:Op):Option Call:=
 match o with
 |.call c=>match c.callee with
  |.builtin _=>Y
  |_=>U c
 |_=>Y
def bB(o:Oper)(s:St)(k:St->R (Ex×St)):R (Ex×St):=
 match qf o.op with
 |some c=>(qc tb s.t s.m.get c).bind λ cl=>(cH tb ih cl s.m).bind λ r=>match r with
  |.val v A=>bS {s with m:=A} o.dst v k
  |.dR v A=>.ok (.dR v,{s with m:=A})
 |none=>match cls tb o.op with
  |.P=>(gT tb s.t o.op).bind λ v=>bS s o.dst v k
  |.Rd=>(eB tb s.t s.m.get o.op).bind λ v=>bS s o.dst v k
  |.Al=>(l_ tb s.t o.op).bind λ(ob,way)=>bS {s with m:=s.m.alloc ob} o.dst (way.at s.m.next) k
  |.L=>match o.op with
   |.panic x=>(ev s.t x).bind λ x=>match x with
    |.iface t v=>.ok (.dR (.iface t v),s)
    |_=>.no 252
   |_=>(jX tb s.t s.m o.op).bind λ(v,A)=>bS {s with m:=A} o.dst v k
def jc(ops:List Oper)(o:Oper)(t:T O):R Bool:=
 match o.guard with
 |none=>.ok aa
 |some (j,want)=>match ops[j]? with
  |some oj=>match oj.dst with
   |some d=>match t.get d with
    |some (.bool b)=>.ok (bif b then want else !want)
    |some (.tuple _)=>.ok af
    |some _=>.no 257
    |none=>.no 253
   |none=>.no 254
  |none=>.no 255
def j7(ops:List Oper)(l:List Oper):St->R (Ex×St):=
 List.rec (λ s=>.ok (.nrm,s))
  (λ o _ next s=>(jc ops o s.t).bind λ w=>bif w then bB tb ih o s next else bS s o.dst cL next) l
end
def An(acc:List Nat):List Edge->R Nat
 | []=>.ok 0
 |e::es=>(An acc es).bind λ m=>
  bif Region.binds .any e then
   match acc[e.on]? with
   |some a=>.ok (Nat.lor (Nat.lor (Nat.shiftLeft 1 e.on) a) m)
   |none=>.no 300
  else .ok m
def RG:bA->List Tmp
 |.tmp t=>[t]
 |_=>[]
def u_(ops:List Oper)(o:Oper):List Tmp:=
 (o.op.operands.toList.flatMap RG)++(match o.guard with
  |some (j,_)=>match ops[j]? with
   |some oj=>oj.dst.toList
   |none=>[]
  |none=>[])
def sP(a b:List Nat):Bool:=a.any λ x=>b.any λ y=>aL x y
structure ng where
 m:Nat
 c:LS
 w:List Tmp
 r:List Tmp
def C0(tb:aO)(ops:List Oper):List Oper->List Nat->R (List ng)
 | [],_=>.ok []
 |o::os,acc=>(An acc o.after.toList).bind λ m=>xe m λ m=>(C0 tb ops os (acc++[m])).bind λ l=>
  .ok ({m,c:=cls tb o.op,w:=o.dst.toList,r:=u_ ops o}::l)
def Ko(i:Nat)(a:ng)(j:Nat)(b:ng):R (List (Nat×Nat)):=
 bif Nat.testBit b.m i then .ok []
 else bif sP a.w b.w||sP a.w b.r||sP a.r b.w then .no 301
 else match a.c,b.c with
  |.L,.L=>.no 302
  |.Rd,.L=>.ok [(i,j)]
  |.L,.Rd=>.ok [(j,i)]
  |.Al,.L=>.ok [(i,j)]
  |_,_=>.ok []
def GZ(j:Nat)(b:ng):List ng->Nat->R (List (Nat×Nat))
 | [],_=>.ok []
 |a::l,i=>(Ko i a j b).bind λ p=>(GZ j b l (i+1)).bind λ q=>.ok (p++q)
def F7(all:List ng):List ng->Nat->R (List (Nat×Nat))
 | [],_=>.ok []
 |b::l,j=>(GZ j b (all.take j) 0).bind λ p=>(F7 all l (j+1)).bind λ q=>.ok (p++q)
def uH(tb:aO)(ops:List Oper):R (List (Nat×Nat)):=
 (C0 tb ops ops []).bind λ l=>F7 l l 0
def ri(a b:Option Nat):Bool:=
 match a,b with
 |none,Y=>aa
 |some a,U b=>aL a b
 |_,_=>af
def tU(a b:Addr):Bool:=aL a.block b.block&&aL a.off b.off&&ri a.spot b.spot
def Dz(a b:Fn):Bool:=
 match a,b with
 |.func f,.func g=>aL f g
 |.yield f,.yield g=>aL f g
 |_,_=>af
def cP:Nat->O->O->Bool
 |0,_,_=>af
 |d+1,a,b=>
  let all:List O->List O->Bool:=λ l m=>aL (Z l) (Z m)&&(l.zip m).all λ(x,y)=>cP d x y
  match a,b with
  |.bool aa,.bool aa=>aa
  |.bool af,.bool af=>aa
  |.int k x,.int k' y=>iA k k'&&ky x y
  |.string x,.string y=>nt x.data.toList y.data.toList
  |.pointer Y,.pointer Y=>aa
  |.pointer (U x),.pointer (U y)=>tU x y
  |.slice Y l c,.slice Y l' c'=>aL l l'&&aL c c'
  |.slice (U x) l c,.slice (U y) l' c'=>tU x y&&aL l l'&&aL c c'
  |.map x,.map y=>ri x y
  |.chan x,.chan y=>ri x y
  |.nilFunc,.nilFunc=>aa
  |.nilIface,.nilIface=>aa
  |.iface t x,.iface u y=>aL t u&&cP d x y
  |.func f x y,.func g x' y'=>Dz f g&&all x.toList x'.toList&&all y.toList y'.toList
  |.agg x,.agg y=>all x.toList y.toList
  |.tuple x,.tuple y=>all x.toList y.toList
  |.complex .f32 0 0,.complex .f32 0 0=>aa
  |_,_=>af
def eA(r l:Nat)(fl:List (Nat×Nat)):Bool:=fl.any λ p=>aL p.1 r&&aL p.2 l
structure Rec where
 i:Nat
 t:T O
 o:Op
 v:O
def jA(tb:aO)(g:Nat->Option Ob)(x:Rec):Bool:=
 match eB tb x.t g x.o with
 |.ok v=>cP 100 v x.v
 |.no _=>af
section
variable (tb:aO)(ih:aH->St->R (Ex×St))
def rS(b:Nat)(o:Option Ob)(l:List (Nat×Mem)):List (Nat×Mem):=
 match o with
 |some o=>l.map λ m=>(m.1,m.2.set b o)
 |none=>l
def iy:List Nat->Mem->Mem
 | [],A=>A
 |b::bs,A=>iy bs (A.set b .dead)
def kh(g:Nat->Option Ob):List Nat->Mem->R Mem
 | [],A=>.ok A
 |b::bs,A=>match g b with
  |some o=>kh g bs (A.set b o)
  |none=>.no 313
def dW(ops:List Oper)(fl:List (Nat×Nat))(l:List Oper):(i:Nat)->(mems:List (Nat×Mem))->(recs:List Rec)->(mks:List (Nat×Nat))->St->R (Ex×St):=
 List.rec (λ _ _ _ _ s=>.ok (.nrm,s))
  (λ o _ next i mems recs mks s=>(jc ops o s.t).bind λ w=>
   bif w then
    match cls tb o.op with
    |.L=>bB tb ih o {s with m:=iy ((mks.filter λ x=>eA x.1 i fl).map (·.2)) s.m} λ s'=>
     (kh s.m.get ((mks.filter λ x=>eA x.1 i fl).map (·.2)) s'.m).bind λ A=>
     bif (recs.filter λ x=>eA x.i i fl).all (jA tb A.get)then next (i+1) ((i,s.m)::mems) recs mks {s' with m:=A}else .no 310
    |.Rd=>(eB tb s.t s.m.get o.op).bind λ v=>
     bif (mems.filter λ m=>eA i m.1 fl).all (λ m=>jA tb m.2.get ⟨i,s.t,o.op,v⟩)then bS s o.dst v (next (i+1) mems (⟨i,s.t,o.op,v⟩::recs) mks)else .no 311
    |.Al=>bB tb ih o s λ s'=>next (i+1) (rS s.m.next (s'.m.get s.m.next) mems) recs ((i,s.m.next)::mks) s'
    |.P=>bB tb ih o s (next (i+1) mems recs mks)
   else bS s o.dst cL (next (i+1) mems recs mks)) l
def regionF(ops:List Oper)(draw:Bool)(s:St):R (Ex×St):=
 bif draw then
  (uH tb ops).bind λ fl=>(dW tb ih ops fl ops 0 [] [] [] s).bind λ(e,s)=>
  match e with
  |.nrm=>.ok (.nrm,s)
  |_=>.no 312
 else j7 tb ih ops ops s
def xC(f:bA)(params:List Tmp)(assign body:aH)(fnId:FuncId)(s:St):R (Ex×St):=
 (ev s.t f).bind λ fv=>
 (match s.ro with
  |some l=>match s.m.get l with
   |some (.loop r)=>R.ok (r.defers,s.m,([]:List Nat))
   |_=>.no 320
  |none=>.ok (s.m.next,s.m.alloc .defd,[s.m.next])).bind λ(dfb,A,mark)=>
 let lid:=A.next
 let A:=A.alloc (.loop {state:=.ready,pending:=Y,fn:=fnId,tmps:=s.t,n:=s.n,params,assign,body,defers:=dfb})
 (tK tb A.get fv [.func (.yield lid) ⟨[]⟩ ⟨[]⟩]).bind λ c=>(cH tb ih c A).bind λ r=>
 match r with
 |.dR _ _=>.no 324
 |.val _ A=>match A.get lid with
  |some (.loop r)=>
   let s':St:={s with m:=A.set lid (.loop {r with state:=.exhausted}),d:=mark++s.d}
   match r.state,r.pending with
   |.busy,_=>.no 321
   |_,Y=>.ok (.nrm,s')
   |_,U (.exit id)=>.ok (.exit id,s')
   |_,U .ret=>.ok (.ret,s')
   |_,U _=>.no 322
  |_=>.no 323
def Ld(c:aH)(s:St):R (Ex×St):=
 match c with
 |.skip=>.ok (.nrm,s)
 |.label _=>.ok (.nrm,s)
 |.region _ ops draw=>regionF tb ih ops.toList draw s
 |.seq a b=>(ih a s).bind λ(e,s')=>match e with
  |.nrm=>ih b s'
  |e=>.ok (e,s')
 |.cond c a b=>(ev s.t c).bind λ v=>match v with
  |.bool aa=>ih a s
  |.bool af=>ih b s
  |_=>.no 330
 |.block id c=>(ih c s).bind λ(e,s')=>match e with
  |.exit i=>bif aL i id then .ok (.nrm,s')else .ok (.exit i,s')
  |e=>.ok (e,s')
 |.loop c=>(ih c s).bind λ(e,s')=>match e with
  |.nrm=>ih (.loop c) s'
  |e=>.ok (e,s')
 |.scope c=>ih c s
 |.exit id=>.ok (.exit id,s)
 |.ret=>.ok (.ret,s)
 |.rangeFunc f ps a b=>xC tb ih f ps.toList a b 0 s
 |.goto _=>.no 331
 |.refuse _=>.no 332
end
def exec(tb:aO)(n:Nat):aH->St->R (Ex×St):=
 Nat.rec (λ _ _=>.no 0) (λ _ ih=>Ld tb ih) n
def call(tb:aO)(n:Nat)(f:FuncId)(args:List O)(A:Mem):R nh:=
 match tb.fn.get f with
 |none=>.no 400
 |some fn=>match fn.body with
  |none=>.no 401
  |some c=>uC tb (exec tb n) fn c args A
structure Loc where
 blk:Nat
 sh:Nat
 sz:Nat
abbrev a8:=Nat->Option Loc
def Qo:Fn->Prop
 |.yield _=>False
 |_=>True
mutual
inductive VR (ι:a8):O->O->Prop
 |bool (b:Bool):VR ι (.bool b) (.bool b)
 |int (k:cY) (n:Int):VR ι (.int k n) (.int k n)
 |string (s:ByteArray):VR ι (.string s) (.string s)
 |ptrN:VR ι (.pointer Y) (.pointer Y)
 |ptr {b o:Nat} {l:Loc} (h:ι b=U l):VR ι (.pointer (U ⟨b,o,Y⟩)) (.pointer (U ⟨l.blk,o+l.sh,Y⟩))
 |slN:VR ι (.slice Y 0 0) (.slice Y 0 0)
 |sl {b o len k:Nat} {l:Loc} (h:ι b=U l) (hk:dH k=aa):VR ι (.slice (U ⟨b,o,Y⟩) len k) (.slice (U ⟨l.blk,o+l.sh,Y⟩) len (bH k))
 |slX {b o o' len k cap':Nat} {l:Loc} (h:ι b=U l) (hk:dH k=af) (hc:bH k<=cap') (hsz:o'+cap'*gM k<=l.sz)
  (ho:0<cap'->o'=o+l.sh) (hb:cap'<2^63) (hl:len<=bH k):VR ι (.slice (U ⟨b,o,Y⟩) len k) (.slice (U ⟨l.blk,o',Y⟩) len cap')
 |mapN:VR ι (.map Y) (.map Y)
 |map {b:Nat} {l:Loc} (h:ι b=U l):VR ι (.map (U b)) (.map (U l.blk))
 |func {fn:Fn} {a b a' b':Array O} (hf:Qo fn) (ha:bn ι a.toList a'.toList) (hb:bn ι b.toList b'.toList):VR ι (.func fn a b) (.func fn a' b')
 |yield {b:Nat} {l:Loc} (h:ι b=U l):VR ι (.func (.yield b) ⟨[]⟩ ⟨[]⟩) (.func (.yield l.blk) ⟨[]⟩ ⟨[]⟩)
 |nilFunc:VR ι .nilFunc .nilFunc
 |nilIface:VR ι .nilIface .nilIface
 |iface {t:aj} {v v':O} (h:VR ι v v'):VR ι (.iface t v) (.iface t v')
 |agg {a a':Array O} (h:bn ι a.toList a'.toList):VR ι (.agg a) (.agg a')
 |tuple {a a':Array O} (h:bn ι a.toList a'.toList):VR ι (.tuple a) (.tuple a')
 |unk {v':O} (h:bI v'=aa):VR ι (.chan (U 0)) v'
 |least {n m:Nat} (h:n<=m) (hm:m<2^63):VR ι (.complex .f64 n 0) (.int .i64 (.ofNat m))
 |emp (a:Addr):VR ι (.complex .f32 0 0) (.slice (U a) 0 0)
inductive bn (ι:a8):List O->List O->Prop
 |nil:bn ι [] []
 |cons {v v':O} {l l':List O} (h:VR ι v v') (ht:bn ι l l'):bn ι (v::l) (v'::l')
end
def gX(ι ι':a8):Prop:=∀b l,ι b=U l->ι' b=U l
def gX.trans{a b c:a8}(h:gX a b)(k:gX b c):gX a c:=λ x l hx=>k x l (h x l hx)
mutual
theorem VR.mono{ι ι':a8}(hi:gX ι ι'){v v':O}(h:VR ι v v'):VR ι' v v':=by
 cases h with
 |bool b=>exact .bool b
 |int k n=>exact .int k n
 |string s=>exact .string s
 |ptrN=>exact .ptrN
 |ptr h=>exact .ptr (hi _ _ h)
 |slN=>exact .slN
 |sl h hk=>exact .sl (hi _ _ h) hk
 |slX h hk hc hsz ho hb hl=>exact .slX (hi _ _ h) hk hc hsz ho hb hl
 |mapN=>exact .mapN
 |map h=>exact .map (hi _ _ h)
 |func hf ha hb=>exact .func hf (bn.mono hi ha) (bn.mono hi hb)
 |yield h=>exact .yield (hi _ _ h)
 |nilFunc=>exact .nilFunc
 |nilIface=>exact .nilIface
 |iface h=>exact .iface (VR.mono hi h)
 |agg h=>exact .agg (bn.mono hi h)
 |tuple h=>exact .tuple (bn.mono hi h)
 |unk h=>exact .unk h
 |least h hm=>exact .least h hm
 |emp a=>exact .emp a
theorem bn.mono{ι ι':a8}(hi:gX ι ι'){l l':List O}(h:bn ι l l'):bn ι' l l':=by
 cases h with
 |nil=>exact .nil
 |cons h ht=>exact .cons (VR.mono hi h) (bn.mono hi ht)
end
variable {ι:a8}
def bn.length:∀{l l':List O},bn ι l l'->Z l'=Z l
 |_,_,.nil=>rfl
 |_,_,.cons _ ht=>by simp[ht.length]
def bn.get:∀{l l':List O},bn ι l l'->∀(i:Nat) (v:O),l[i]?=U v->∃v',l'[i]?=U v'/\VR ι v v'
 |_,_,.nil,i,v,h=>by simp at h
 |_,_,.cons h ht,0,v,e=>by simp at e;subst e;exact⟨_,rfl,h⟩
 |_,_,.cons h ht,i+1,v,e=>by
  simp at e;obtain⟨v',e',r⟩:=ht.get i v e;exact⟨v',by simpa using e',r⟩
theorem bn.De:∀{l l':List O},Z l'=Z l->(∀(i:Nat) (v v':O),l[i]?=U v->l'[i]?=U v'->VR ι v v')->bn ι l l'
 | [],[],_,_=>.nil
 | [],_::_,h,_=>by simp at h
 |_::_,[],h,_=>by simp at h
 |v::l,v'::l',h,f=>.cons (f 0 v v' rfl rfl) (bn.De (by simpa using h) λ i a b ha hb=>f (i+1) a b (by simpa using ha) (by simpa using hb))
def bn.append:∀{a a' b b':List O},bn ι a a'->bn ι b b'->bn ι (a++b) (a'++b')
 |_,_,_,_,.nil,h=>h
 |_,_,_,_,.cons h ht,k=>.cons h (ht.append k)
def bn.take:∀{a a':List O} (n:Nat),bn ι a a'->bn ι (a.take n) (a'.take n)
 |_,_,0,_=>by simpa using .nil
 |_,_,n+1,.nil=>by simpa using .nil
 |_,_,n+1,.cons h ht=>by simpa using .cons h (ht.take n)
def bn.drop:∀{a a':List O} (n:Nat),bn ι a a'->bn ι (a.drop n) (a'.drop n)
 |_,_,0,h=>by simpa using h
 |_,_,n+1,.nil=>by simpa using .nil
 |_,_,n+1,.cons _ ht=>by simpa using ht.drop n
variable {v':O}
def VR.cells{v:O}(h:VR ι v v'):bn ι v.cells.toList v'.cells.toList:=by
 have hc:=h;cases h with
 |agg h=>exact h
 |unk h1=>
  have e:v'.cells= #[v']:=by
   cases v'<;>first|rfl|simp[bI]at h1
  rw[e];exact .cons hc .nil
 |_=>exact .cons hc .nil
def VR.one{v:O}(h:VR ι v v')(h1:bI v=aa):bI v'=aa:=by
 cases h<;>first|rfl|assumption|simp[bI]at h1
mutual
theorem E4{ι:a8}:∀(d:Nat) (v:O),sk d v=aa->VR ι v v
 |0,_,h=>by simp[sk]at h
 |d+1,v,h=>by
  unfold sk at h;split at h<;>first
   |(constructor;done)
   |exact .iface (E4 d _ h)
   |exact .agg (IM d _ (ov.1 h))
   |exact .tuple (IM d _ (ov.1 h))
   |exact .func trivial .nil .nil
   |simp at h
theorem IM{ι:a8}:∀(d:Nat) (l:List O),(∀v∈l,sk d v=aa)->bn ι l l
 |d,[],_=>.nil
 |d,v::l,h=>.cons (E4 d v (h v (by simp))) (IM d l λ x hx=>h x (by simp[hx]))
end
def TR(ι:a8)(n:Nat)(τ:T O)(t:Array O):Prop:=t.size=n/\∀i v,τ.get i=U v->∃v',t[i]?=U v'/\VR ι v v'
variable {ι':a8}{n:Nat}
def TR.mono(hi:gX ι ι'){τ:T O}{t:Array O}(h:TR ι n τ t):TR ι' n τ t:=
 ⟨h.1,λ i v hv=>let⟨v',e,r⟩:=h.2 i v hv;⟨v',e,r.mono hi⟩⟩
variable {d:Nat}
def TR.set{τ:T O}{t:Array O}(h:TR ι n τ t)(hd:d<n){v:O}(hv:VR ι v v'):TR ι n (τ.set d v) (t.setIfInBounds d v'):=by
 refine⟨by simp[h.1],λ i x hx=>?_⟩;rw[T.cq]at hx;by_cases hi:i=d
 .subst hi;rw[aC rfl]at hx;cases hx;exact⟨v',by simp[h.1,hd],hv⟩
 .rw[aq hi]at hx;obtain⟨x',e,r⟩:=h.2 i x hx;refine⟨x',?_,r⟩;rw[LP (Ne.symm hi)];exact e
inductive iT (ι:a8):List MapEntry->List MapEntry->Prop
 |nil:iT ι [] []
 |cons {e e':MapEntry} {l l':List MapEntry} (hk:VR ι e.key e'.key) (hb:e'.born=e.born) (hv:VR ι e.val e'.val) (ht:iT ι l l'):iT ι (e::l) (e'::l')
def iT.mono(hi:gX ι ι'):∀{l l':List MapEntry},iT ι l l'->iT ι' l l'
 |_,_,.nil=>.nil
 |_,_,.cons hk hb hv ht=>.cons (hk.mono hi) hb (hv.mono hi) (ht.mono hi)
def iT.length:∀{l l':List MapEntry},iT ι l l'->Z l'=Z l
 |_,_,.nil=>rfl
 |_,_,.cons _ _ _ ht=>by simp[ht.length]
structure LR (ι:a8) (r:eT) (r':Loop):Prop where
 state:r'.state=r.state
 pending:r'.pending=r.pending
 tmps:TR ι r.n r.tmps r'.tmps
 params:r'.params.toList=r.params
 assign:r'.assign=r.assign
 body:r'.body=r.body
 defers:∃l,ι r.defers=U l/\r'.defers=l.blk
def OR(ι:a8)(o:Ob)(l:Loc)(o':Obj):Prop:=
 match o with
 |.cells t x fz c=>∃cs fr,o'=.cells cs t fr/\cs.size=l.sz/\(∀i v,c.get i=U v->∃v',cs[i+l.sh]?=U v'/\VR ι v v')/\
  match x with
  |.var n=>l.sh=0/\l.sz=n/\fr=(0,0)
  |.row=>fr.2<=l.sh+fz
  |.mark=>∀i,i<l.sz->¬(fr.1<=i/\i<fr.2)
  |.room n=>fr.2<=l.sh+fz/\l.sh+n<=l.sz
 |.map es clock=>l.sh=0/\∃es',o'=.map es' clock/\iT ι es es'.toList
 |.sit s pos=>l.sh=0/\o'=.stringIter s pos
 |.mit m c b=>l.sh=0/\∃lm,ι m=U lm/\o'=.mapIter (U lm.blk) c b.toArray c
 |.nit=>l.sh=0/\o'=.mapIter Y 0 #[] 0
 |.loop r=>l.sh=0/\∃r',o'=.loop r'/\LR ι r r'
 |.defd=>o'=.deferred (U [])
 |.dead=>True
variable {o':Obj}
def OR.mono(hi:gX ι ι'){o:Ob}{l:Loc}(h:OR ι o l o'):OR ι' o l o':=by
 cases o with
 |cells t x fz c=>
  obtain⟨cs,fr,e,h1,h2,h3⟩:=h;exact⟨cs,fr,e,h1,λ i v hv=>let⟨v',e,r⟩:=h2 i v hv;⟨v',e,r.mono hi⟩,h3⟩
 |map es clock=>obtain⟨h0,es',e,h⟩:=h;exact⟨h0,es',e,h.mono hi⟩
 |sit s pos=>exact h
 |mit m c b=>obtain⟨h0,lm,h1,h2⟩:=h;exact⟨h0,lm,hi _ _ h1,h2⟩
 |nit=>exact h
 |loop r=>
  obtain⟨h0,r',e,h⟩:=h;obtain⟨ld,hl,hd⟩:=h.defers;exact⟨h0,r',e,⟨h.state,h.pending,h.tmps.mono hi,h.params,h.assign,h.body,ld,hi _ _ hl,hd⟩⟩
 |defd=>exact h
 |dead=>trivial
def alive:Ob->Bool
 |.dead=>af
 |_=>aa
def live(A:Mem)(b:Nat):Prop:=∃o,A.get b=U o/\alive o=aa
structure Rel (ι:a8) (A:Mem) (w:aG):Prop where
 wf:∀b,A.next<=b->A.get b=Y
 obs:∀b o l,A.get b=U o->alive o=aa->ι b=U l->∃o',w.heap[l.blk]?=U o'/\OR ι o l o'
 rng:∀b l,ι b=U l->l.blk<w.heap.size
 inj:∀b b' l l',live A b->live A b'->ι b=U l->ι b'=U l'->l.blk=l'.blk->b=b'
 gl:∀b t k c,A.get b=U (.cells t .row (GB k) c)->∃l,ι b=U l/\l.blk=k/\l.sh=0/\l.sz<=18446744073709551616
def ew(ι:a8)(A A':Mem):Prop:=∀b,A.next<=b->b<A'.next->ι b=Y
def Still(A:Mem)(b:Nat)(l:Loc):Prop:=b<A.next/\∃t fz c,A.get b=U (.cells t .row fz c)/\9223372036854775808<=fz/\l.sz<fz
structure bZ (ι:a8) (A:Mem) (w:aG) (ι':a8) (A':Mem) (w':aG):Prop where
 next:A.next<=A'.next
 out:∀b,b<A.next\/A'.next<=b->ι' b=ι b
 src:∀b l,live A' b->ι' b=U l->w.heap.size<=l.blk\/∃b0 l0,live A b0/\ι b0=U l0/\l0.blk=l.blk
 fr:∀c,c<w.heap.size->(∀b l,live A b->ι b=U l->l.blk≠c)->w'.heap[c]?=w.heap[c]?
 size:w.heap.size<=w'.heap.size
 os:w'.os=w.os
 tape:w'.tape=w.tape
 output:w'.output=w.output
 kept:∀b l,ι b=U l->Still A b l->A'.get b=A.get b/\w'.heap[l.blk]?=w.heap[l.blk]?
variable {A A':Mem}{w':aG}
def bZ.le{w:aG}(h:bZ ι A w ι' A' w')(hf:ew ι A A'):gX ι ι':=by
 intro b l hb;rcases d_ b A.next with h1|h1
 .rw[h.out b (.inl h1)];exact hb
 .rcases d_ b A'.next with h2|h2
  .rw[hf b h1 h2]at hb;cases hb
  .rw[h.out b (.inr h2)];exact hb
def bZ.refl(ι:a8)(A:Mem)(w:aG):bZ ι A w ι A w:=
 ⟨aJ _,λ _ _=>rfl,λ b l hb hl=>.inr ⟨b,l,hb,hl,rfl⟩,λ _ _ _=>rfl,aJ _,rfl,rfl,rfl,λ _ _ _ _=>⟨rfl,rfl⟩⟩
def bZ.trans{ι1 ι2:a8}{A1 A2:Mem}{w w1 w2:aG}(h:bZ ι A w ι1 A1 w1)(k:bZ ι1 A1 w1 ι2 A2 w2):bZ ι A w ι2 A2 w2 where
 next:=dp h.next k.next
 out:=λ b hb=>by
  have:=h.next
  have:=k.next
  rw[k.out b (by omega),h.out b (by omega)]
 src:=λ b l hb hl=>by
  rcases k.src b l hb hl with h1|⟨b0,l0,h1,h2,h3⟩
  .exact .inl (dp h.size h1)
  .rcases h.src b0 l0 h1 h2 with h4|⟨b1,l1,h4,h5,h6⟩
   .exact .inl (by omega)
   .exact .inr ⟨b1,l1,h4,h5,by omega⟩
 fr:=λ c hc hn=>by
  rw[k.fr c (dc hc h.size),h.fr c hc hn];intro b l hb hl he;rcases h.src b l hb hl with h1|⟨b0,l0,h1,h2,h3⟩
  .omega
  .exact hn b0 l0 h1 h2 (by omega)
 size:=dp h.size k.size
 os:=k.os.trans h.os
 tape:=k.tape.trans h.tape
 output:=k.output.trans h.output
 kept:=λ b l hl hs=>by
  obtain⟨e1,e2⟩:=h.kept b l hl hs;obtain⟨h1,t,fz,c,h2,h3⟩:=hs;obtain⟨e3,e4⟩:=k.kept b l (by rw[h.out b (.inl h1)];exact hl) ⟨dc h1 h.next,t,fz,c,by rw[e1];exact h2,h3⟩;exact⟨e3.trans e1,e4.trans e2⟩
def ew.left{A1 A2:Mem}(h:ew ι A A2)(k:A1.next<=A2.next):ew ι A A1:=λ b h1 h2=>h b h1 (by omega)
def ew.right{ι1:a8}{A1 A2:Mem}{w w1:aG}(h:ew ι A A2)(k:bZ ι A w ι1 A1 w1):ew ι1 A1 A2:=λ b h1 h2=>by
 rw[k.out b (.inr h1)];exact h b (dp k.next h1) h2
structure Wu (w w':aG) (c:Nat) (o:Obj):Prop where
 size:w.heap.size<=w'.heap.size
 at_:w'.heap[c]?=U o
 ne:∀k,k<w.heap.size->k≠c->w'.heap[k]?=w.heap[k]?
 os:w'.os=w.os
 tape:w'.tape=w.tape
 output:w'.output=w.output
def cr(A:Mem)(b x:Nat)(o:Ob):(A.set b o).get x=if x=b then U o else A.get x:=T.cq ..
def mo(A:Mem)(x:Nat)(o:Ob):(A.alloc o).get x=if x=A.next then U o else A.get x:=T.cq ..
def cE(A:Mem)(b:Nat)(o:Ob):(A.set b o).next=A.next:=rfl
def aA(A:Mem)(o:Ob):(A.alloc o).next=A.next+1:=rfl
variable {b:Nat}
def re{l:Loc}{o:Ob}(hg:A.get b=U o)(h:∀t fz c,o=.cells t .row fz c->fz<9223372036854775808\/fz<=l.sz):¬Still A b l:=by
 rintro⟨_,t,fz,c,h2,h3,h4⟩;rw[hg]at h2;cases h2;rcases h t fz c rfl with h|h<;>omega
variable {ob:Ob}
def Rel.sU{w:aG}{o:Ob}{l:Loc}(h:Rel ι A w)(hg:A.get b=U o)(ha:alive o=aa)(hl:ι b=U l)(hns:¬Still A b l)(hgl:∀t k c,ob=.cells t .row (GB k) c->∃t' c',o=.cells t' .row (GB k) c')
 (hw:Wu w w' l.blk o')(hs:w'.heap.size=w.heap.size)(ho:OR ι ob l o'):Rel ι (A.set b ob) w'/\bZ ι A w ι (A.set b ob) w':=by
 have hlive:∀x,live (A.set b ob) x->live A x:=by
  rintro x ⟨ox,hx,hal⟩;rw[cr]at hx;by_cases hxb:x=b
  .subst hxb;exact⟨o,hg,ha⟩
  .rw[aq hxb]at hx;exact⟨ox,hx,hal⟩
 refine⟨⟨λ x hx=>?_,λ x ox lx hx hal hlx=>?_,λ x lx hlx=>by rw[hs];exact h.rng x lx hlx,λ x y lx ly hx hy hlx hly he=>h.inj x y lx ly (hlive x hx) (hlive y hy) hlx hly he,λ x t k c hx=>by
  rw[cr]at hx;by_cases hxb:x=b
  .subst hxb;rw[aC rfl]at hx;obtain⟨t',c',rfl⟩:=hgl t k c (je hx);exact h.gl x _ _ _ hg
  .rw[aq hxb]at hx;exact h.gl x _ _ _ hx⟩,
  ⟨aJ _,λ _ _=>rfl,λ x lx hx hlx=>.inr ⟨x,lx,hlive x hx,hlx,rfl⟩,λ c hc hn=>hw.ne c hc ?_,by omega,hw.os,hw.tape,hw.output,λ x lx hlx hsx=>?_⟩⟩
 .rw[cE]at hx;rw[cr,aq]
  .exact h.wf x hx
  .rintro rfl;rw[h.wf x hx]at hg;cases hg
 .rw[cr]at hx;by_cases hxb:x=b
  .subst hxb;rw[aC rfl]at hx;cases hx;rw[hl]at hlx;cases hlx;exact⟨o',hw.at_,ho⟩
  .rw[aq hxb]at hx;obtain⟨o2,h1,h2⟩:=h.obs x ox lx hx hal hlx;refine⟨o2,?_,h2⟩;rw[hw.ne _ (h.rng x lx hlx)]
   .exact h1
   .intro he;exact hxb (h.inj x b lx l ⟨ox,hx,hal⟩ ⟨o,hg,ha⟩ hlx hl he)
 .rintro rfl;exact hn b l ⟨o,hg,ha⟩ hl rfl
 .have hxb:x≠b:=by
   rintro rfl;rw[hl]at hlx;cases hlx;exact hns hsx
  obtain⟨_,t,fz,c,h2,_⟩:=hsx;refine⟨by rw[cr,aq hxb],hw.ne _ (h.rng x lx hlx) λ he=>hxb (h.inj x b lx l ⟨_,h2,rfl⟩ ⟨o,hg,ha⟩ hlx hl he)⟩
def Rel.No{w:aG}{sz g:Nat}(h:Rel ι A w)(hf:ι A.next=Y)(hgl:∀t k c,ob≠.cells t .row (GB k) c)
 (hg:w.heap.size<=g)(hw:Wu w w' g o')(hs:g<w'.heap.size)
 (ho:∀ι',gX ι ι'->ι' A.next=U ⟨g,0,sz⟩->OR ι' ob ⟨g,0,sz⟩ o'):
 ∃ι',ι' A.next=U ⟨g,0,sz⟩/\Rel ι' (A.alloc ob) w'/\bZ ι A w ι' (A.alloc ob) w':=by
 let ι':a8:=λ b=>if b=A.next then U ⟨g,0,sz⟩else ι b
 have hin:ι' A.next=U ⟨g,0,sz⟩:=aC rfl
 have hne:∀b,b≠A.next->ι' b=ι b:=λ b hb=>aq hb
 have hle:gX ι ι':=λ b l hb=>by
  by_cases e:b=A.next
  .rw[e,hf]at hb;cases hb
  .rw[hne b e];exact hb
 have hlive:∀x,x≠A.next->live (A.alloc ob) x->live A x:=by
  rintro x hne ⟨ox,hx,hal⟩;rw[mo,aq hne]at hx;exact⟨ox,hx,hal⟩
 refine⟨ι',hin,⟨λ x hx=>?_,λ x ox lx hx hal hlx=>?_,λ x lx hlx=>?_,λ x y lx ly hx hy hlx hly he=>?_,λ x t k c hx=>by
  rw[mo]at hx;by_cases e:x=A.next
  .rw[aC e]at hx;exact aZ (je hx) (hgl t k c)
  .rw[aq e]at hx;rw[hne x e];exact h.gl x _ _ _ hx⟩,
  ⟨by rw[aA];omega,λ x hx=>hne x ?_,λ x lx hx hlx=>?_,λ c hc _=>hw.ne c hc (by omega),by omega,hw.os,hw.tape,hw.output,λ x lx hlx hsx=>⟨by rw[mo,aq (by have:=hsx.1;omega)],hw.ne _ (h.rng x lx hlx) (by have:=h.rng x lx hlx;omega)⟩⟩⟩
 .rw[aA]at hx;rw[mo,aq (by omega)];exact h.wf x (by omega)
 .rw[mo]at hx;by_cases e:x=A.next
  .subst e;rw[aC rfl]at hx;cases hx;rw[hin]at hlx;cases hlx;exact⟨o',hw.at_,ho ι' hle hin⟩
  .rw[aq e]at hx;rw[hne x e]at hlx;obtain⟨o2,h1,h2⟩:=h.obs x ox lx hx hal hlx;exact⟨o2,by rw[hw.ne _ (h.rng x lx hlx) (by have:=h.rng x lx hlx;omega)];exact h1,h2.mono hle⟩
 .by_cases e:x=A.next
  .subst e;rw[hin]at hlx;cases hlx;exact hs
  .rw[hne x e]at hlx;have:=h.rng x lx hlx;omega
 .by_cases ex:x=A.next
  .by_cases ey:y=A.next
   .omega
   .subst ex;rw[hin]at hlx;cases hlx;rw[hne y ey]at hly;have:=h.rng y ly hly;simp only at he;omega
  .by_cases ey:y=A.next
   .subst ey;rw[hin]at hly;cases hly;rw[hne x ex]at hlx;have:=h.rng x lx hlx;simp only at he;omega
   .rw[hne x ex]at hlx;rw[hne y ey]at hly;exact h.inj x y lx ly (hlive x ex hx) (hlive y ey hy) hlx hly he
 .rw[aA]at hx;omega
 .by_cases e:x=A.next
  .subst e;rw[hin]at hlx;cases hlx;exact .inl hg
  .rw[hne x e]at hlx;exact .inr ⟨x,lx,hlive x e hx,hlx,rfl⟩
def Rel.tM{w:aG}{sz:Nat}(h:Rel ι A w)(hf:ι A.next=Y)(hgl:∀t k c,ob≠.cells t .row (GB k) c)
 (hw:Wu w w' w.heap.size o')(hs:w'.heap.size=w.heap.size+1)
 (ho:∀ι',gX ι ι'->ι' A.next=U ⟨w.heap.size,0,sz⟩->OR ι' ob ⟨w.heap.size,0,sz⟩ o'):
 ∃ι',ι' A.next=U ⟨w.heap.size,0,sz⟩/\Rel ι' (A.alloc ob) w'/\bZ ι A w ι' (A.alloc ob) w':=h.No hf hgl (aJ _) hw (by omega) ho
section
def R.aF{α β:Type}{x:R α}{f:α->R β}{b:β}(h:x.bind f=.ok b):∃a,x=.ok a/\f a=.ok b:=by
 cases x with
 |ok a=>exact⟨a,rfl,h⟩
 |no w=>cases h
def jK{a:Nat}(h:aM a b=aa):a<b:=by rw[bT]at h;exact h
def HY{a:Nat}(h:aM a b=af):¬a<b:=λ h'=>by
 have:aM a b=aa:=by rw[bT];exact h'
 rw[h]at this;cases this
def jJ{a:Nat}(h:au a b=aa):a<=b:=by rw[pT]at h;exact h
def HX{a:Nat}(h:au a b=af):¬a<=b:=λ h'=>by
 have:au a b=aa:=by rw[pT];exact h'
 rw[h]at this;cases this
def beq_true{a:Nat}(h:aL a b=aa):a=b:=dZ h
def beq_false{a:Nat}(h:aL a b=af):a≠b:=Hv h
def AD(a b:Int):mu a b=decide (a<b):=by
 cases a<;>cases b<;>simp only[mu]
 .rename_i x y;rw[qu];simp[bT]
 .rename_i x y;symm;simp;omega
 .rename_i x y;symm;simp;omega
 .rename_i x y;rw[qu];simp[bT];omega
def xj(a b:Int):ky a b=(a==b):=by
 cases a<;>cases b<;>simp only[ky]
 .rename_i x y;rw[qu];simp only[pS,beq_iff_eq,ig];omega
 .symm;simp
 .symm;simp
 .rename_i x y;rw[qu];simp
def C6{a b:cY}(h:iA a b=aa):a=b:=by
 cases a<;>cases b<;>first|rfl|simp[iA]at h
def Pg{k:cY}{n:Int}(h:dj k n=aa):k.min<=n/\n<=k.max:=by
 cases k<;>cases n<;>simp only[dj,bT,ed]at h<;>
  simp only[IntKind.min,IntKind.max,IntKind.signed,IntKind.bits,bR,bO,ed,ig]<;>constructor<;>omega
def xN{k:cY}{n:Int}(h1:k.min<=n)(h2:n<=k.max):k.wrap n=n:=by
 have key:∀c d:Int,0<d->(k.signed=aa->c=d+d/\-d<=n/\n<d)->(k.signed=af->d=c/\0<=n/\n<c)->
  (if(k.signed&&decide (n % c>=d))=aa then n % c-c else n % c)=n:=by
  intro c d hd hs hu;cases hk:k.signed with
  |false=>
   obtain⟨_,h3,h4⟩:=hu hk;rw[zB,aq (by simp)];exact Int.emod_eq_of_lt h3 h4
  |true=>
   obtain⟨h3,h4,h5⟩:=hs hk;rw[t_];by_cases h6:0<=n
   .rw[Int.emod_eq_of_lt h6 (by omega),aq (by simp only[decide_eq_true_eq];omega)]
   .have e:n % c=n+c:=by
     rw[<-Int.add_emod_right,Int.emod_eq_of_lt (by omega) (by omega)]
    rw[e,aC (by simp only[decide_eq_true_eq];omega)];omega
 have:=key (2^k.bits) (if k.signed then 2^(k.bits-1)else 2^k.bits) (by cases k<;>decide)
  (λ hs=>by
   rw[aC hs];simp only[IntKind.min,IntKind.max,hs,bR]at h1 h2;refine⟨by cases k<;>first|rfl|(cases hs),h1,by omega⟩)
  (λ hs=>by
   rw[aq (by simp[hs])];simp only[IntKind.min,IntKind.max,hs,bO,ed]at h1 h2;exact⟨rfl,h1,by omega⟩)
 unfold IntKind.wrap;cases hk:k.signed with
 |true=>simpa[hk]using this
 |false=>simpa[hk]using this
def qt(k:cY)(n:Int):eP k n=k.wrap n:=by
 unfold eP;cases h:dj k n with
 |false=>rfl
 |true=>obtain⟨h1,h2⟩:=Pg h;exact(xN h1 h2).symm
def JG{k:cY}{a:Nat}(h:dj k (.ofNat a)=aa):∃e,e<=k.bits/\a<2^e/\∀b:Nat,b<2^e->k.wrap (.ofNat b)=.ofNat b:=by
 have key:∀e,e<=k.bits->((2^e-1:Nat):Int)<=k.max->∀b:Nat,b<2^e->k.wrap (.ofNat b)=.ofNat b:=by
  intro e _ h2 b hb;refine xN ?_ ?_
  .have:k.min<=0:=by cases k<;>decide
   have h0:(0:Int)<=cO b:=zJ b;omega
  .have:(cO b)<=((2^e-1:Nat):Int):=by
    show(b:Int)<=_;omega
   omega
 cases k<;>simp only[dj,bT,ed]at h
 .exact⟨31,by decide,h,key 31 (by decide) (by decide)⟩
 .exact⟨63,by decide,h,key 63 (by decide) (by decide)⟩
 .exact⟨8,by decide,h,key 8 (by decide) (by decide)⟩
 .exact⟨16,by decide,h,key 16 (by decide) (by decide)⟩
 .exact⟨32,by decide,h,key 32 (by decide) (by decide)⟩
 .exact⟨64,by decide,h,key 64 (by decide) (by decide)⟩
def qaJ{k:cY}{a:Nat}(ha:dj k (.ofNat a)=aa)(hb:dj k (.ofNat b)=aa):
 ∃e,e<=k.bits/\a<2^e/\b<2^e/\∀c:Nat,c<2^e->k.wrap (.ofNat c)=.ofNat c:=by
 obtain⟨e,h1,h2,h3⟩:=JG ha;obtain⟨f,k1,k2,k3⟩:=JG hb;rcases Nat.le_total e f with h|h
 .exact⟨f,k1,dc h2 (rI (by omega) h),k2,k3⟩
 .exact⟨e,h1,h2,dc k2 (rI (by omega) h),h3⟩
variable {P:cI}
def EB{op:BinOp}{k:cY}{x y:Int}{v:O}(h:Cm op k x y=.ok v)(w:aG):(Op.intBits op k x y).run P w=.ok v w:=by
 have aux:∀(a b:Nat),dj k (.ofNat a)=aa->dj k (.ofNat b)=aa->∃e,a<2^e/\b<2^e/\(∀c:Nat,c<2^e->k.wrap (.ofNat c)=.ofNat c)/\
  (BitVec.ofInt k.bits (.ofNat a)).toNat=a/\(BitVec.ofInt k.bits (.ofNat b)).toNat=b:=by
  intro a b ha hb;obtain⟨e,h0,h1,h2,h3⟩:=qaJ ha hb;have hle:2^e<=2^k.bits:=rI (by omega) h0;have cast:∀n:Nat,n<2^k.bits->(BitVec.ofInt k.bits (.ofNat n)).toNat=n:=by
   intro n hn;show(BitVec.ofInt k.bits (n:Int)).toNat=n;rw[BitVec.ofInt_natCast,BitVec.toNat_ofNat,rH hn]
  exact⟨e,h1,h2,h3,cast a (by omega),cast b (by omega)⟩
 unfold Cm at h;split at h
 .rename_i a b;cases hc:(dj k (.ofNat a)&&dj k (.ofNat b))with
  |false=>rw[hc]at h;cases h
  |true=>
   rw[hc]at h;simp only[aI,av]at h;subst h;simp only[dz]at hc;obtain⟨e,h1,h2,h3,h4,h5⟩:=aux a b hc.1 hc.2;simp only[Op.intBits];rw[BitVec.toNat_and,h4,h5];have:=h3 (a&&&b) (pU Nat.and_le_left h1);exact cV (λ n=>Result.ok (Value.int k n) w) this
 .rename_i a b;cases hc:(dj k (.ofNat a)&&dj k (.ofNat b))with
  |false=>rw[hc]at h;cases h
  |true=>
   rw[hc]at h;simp only[aI,av]at h;subst h;simp only[dz]at hc;obtain⟨e,h1,h2,h3,h4,h5⟩:=aux a b hc.1 hc.2;simp only[Op.intBits];rw[BitVec.toNat_or,h4,h5];have:=h3 (a|||b) (Nat.or_lt_two_pow h1 h2);exact cV (λ n=>Result.ok (Value.int k n) w) this
 .rename_i a b;cases hc:(dj k (.ofNat a)&&dj k (.ofNat b))with
  |false=>rw[hc]at h;cases h
  |true=>
   rw[hc]at h;simp only[aI,av]at h;subst h;simp only[dz]at hc;obtain⟨e,h1,h2,h3,h4,h5⟩:=aux a b hc.1 hc.2;simp only[Op.intBits];rw[BitVec.toNat_xor,h4,h5];have:=h3 (a^^^b) (Em h1 h2);exact cV (λ n=>Result.ok (Value.int k n) w) this
 .rename_i a b;cases hc:(dj k (.ofNat a)&&dj k (.negSucc b))with
  |false=>rw[hc]at h;cases h
  |true=>
   rw[hc]at h;simp only[aI,av]at h;subst h;simp only[dz]at hc;obtain⟨e,h0,h1,h3⟩:=JG hc.1;have hle:2^e<=2^k.bits:=rI (by omega) h0;have ha:(BitVec.ofInt k.bits (.ofNat a))=BitVec.ofNat k.bits a:=BitVec.ofInt_natCast ..;have hb:(BitVec.ofInt k.bits (.negSucc b))= ~~~BitVec.ofNat k.bits b:=BitVec.ofInt_negSucc_eq_not_ofNat ..;simp only[Op.intBits];rw[ha,hb];have e1:(BitVec.ofNat k.bits a&&&~~~BitVec.ofNat k.bits b).toNat=Nat.xor a (Nat.land a b):=by
    apply Nat.eq_of_testBit_eq;intro i;rw[BitVec.testBit_toNat,BitVec.getLsbD_and,BitVec.getLsbD_not,BitVec.getLsbD_ofNat,BitVec.getLsbD_ofNat];show _=Nat.testBit (a^^^(a&&&b)) i;rw[Nat.testBit_xor,Nat.testBit_and];by_cases hi:i<k.bits
    .simp only[hi,decide_true,t_];cases a.testBit i<;>cases b.testBit i<;>rfl
    .have:a.testBit i=af:=Nat.testBit_lt_two_pow (dc h1 (rI (by omega) (by omega)));simp[hi,this]
   rw[e1];have:=h3 (Nat.xor a (Nat.land a b)) (Em h1 (pU Nat.and_le_left h1));exact cV (λ n=>Result.ok (Value.int k n) w) this
 .cases h
def S_{op:BinOp}{k yk:cY}{x y:Int}{v:O}(h:DB op k x y=.ok v)(w:aG):(Op.shift op k x yk y).run P w=.ok v w:=by
 unfold DB at h;split at h
 .rename_i a b;simp only[av]at h;subst h;have hb:¬(cO b<0):=by have:=zJ b;show¬((b:Int)<0);omega
  simp only[Op.shift,aq hb];show Result.ok _ _=_;have e1:min (cO b).toNat k.bits=bif aM b k.bits then b else k.bits:=by
   show min b k.bits=_;cases hc:aM b k.bits with
   |true=>
    have:=jK hc;simp only[aI];omega
   |false=>
    have:=HY hc;simp only[ba];omega
  rw[e1];generalize (bif aM b k.bits then b else k.bits)=n;have e2:(cO a).fdiv (2^n)=cO (a.shiftRight n):=by
   rw[show a.shiftRight n=a>>>n from rfl,uk];rw[Int.fdiv_eq_ediv_of_nonneg _ (by exact Int.le_of_lt (Int.pow_pos (by omega)))]
   push_cast;rfl
  rw[e2]
 .rename_i a b;have hb:¬(cO b<0):=by have:=zJ b;show¬((b:Int)<0);omega
  simp only[Op.shift,aq hb];show Result.ok _ _=_;cases hc:aM b k.bits with
  |true=>
   rw[hc]at h;simp only[aI,av]at h;subst h;have hlt:b<k.bits:=by simpa[bT]using hc
   have e1:min (cO b).toNat k.bits=b:=by show min b k.bits=b;omega
   rw[e1,qt];have e2:cO a*2^b=cO (a.shiftLeft b):=by
    rw[show a.shiftLeft b=a<<<b from rfl,Hw]
    push_cast;rfl
   rw[e2]
  |false=>
   rw[hc]at h;simp only[ba,av]at h;subst h;have hge:=HY hc;have e1:min (cO b).toNat k.bits=k.bits:=by show min b k.bits=_;omega
   rw[e1];have e2:k.wrap (cO a*2^k.bits)=0:=by
    unfold IntKind.wrap;rw[Int.mul_emod_left];cases k<;>rfl
   rw[e2]
 .cases h
def Ny{op:BinOp}{k:cY}{x y:Int}{v:O}(h:CG op k x y=.ok v)(w:aG):(Op.intDiv op k x y).run P w=.ok v w:=by
 have gen:∀{op':BinOp} {z:Int->Int->Int},(op'=.quo/\z=(λ x y=>k.wrap (x.tdiv y))\/op'=.rem/\z=λ x y=>x.tmod y)->
  (bif ky y 0 then(R.no 15:R O)else .ok (.int k (z x y)))=.ok v->(Op.intDiv op' k x y).run P w=.ok v w:=by
  intro op' z ho hh;rw[xj]at hh;by_cases hy:y=0
  .subst hy;simp at hh
  .have:(y==0)=af:=by simpa using hy
   rw[this]at hh;simp only[ba,av]at hh;subst hh;rcases ho with⟨rfl,rfl⟩|⟨rfl,rfl⟩<;>simp only[Op.intDiv,aq hy]<;>rfl
 unfold CG at h;split at h
 .rename_i a b;simp only[av]at h;subst h;have hy:¬(cO (b+1)=0):=by intro h;cases h
  simp only[Op.intDiv,aq hy];rw[qt];rfl
 .rename_i a b;simp only[av]at h;subst h;have hy:¬(cO (b+1)=0):=by intro h;cases h
  simp only[Op.intDiv,aq hy];rfl
 .exact gen (.inl ⟨rfl,rfl⟩) h
 .exact gen (.inr ⟨rfl,rfl⟩) h
 .cases h
theorem pj:∀(x y:List UInt8),nt x y=(x==y)
 | [],[]=>rfl
 | [],_::_=>rfl
 |_::_,[]=>rfl
 |a::x,b::y=>by
  have e:aL a.toNat b.toNat=(a==b):=by
   rw[qu];simp[yI]
  show(aL a.toNat b.toNat&&nt x y)=_;rw[e,pj x y];rfl
theorem MS:∀(x y:List UInt8),cJ x y=Op.bytesLess x y
 | [],[]=>rfl
 |_::_,[]=>rfl
 | [],_::_=>rfl
 |a::x,b::y=>by
  have e:aL a.toNat b.toNat=(a==b):=by
   rw[qu];simp[yI]
  have e2:aM a.toNat b.toNat=decide (a<b):=by
   rw[qu];simp[bT,BY]
  show(aM a.toNat b.toNat||(aL a.toNat b.toNat&&cJ x y))=(decide (a<b)||(a==b&&Op.bytesLess x y));rw[e,e2,MS x y]
def toList_data(s:ByteArray):s.toList=s.data.toList:=by
 have key:∀(n i:Nat) (acc:List UInt8),s.size-i=n->G7.loop s i acc=acc.reverse++s.data.toList.drop i:=by
  intro n
  induction n with
  |zero=>
   intro i acc h;unfold G7.loop;have hs:s.size=Z s.data.toList:=by cases s;simp[ByteArray.size]
   rw[aq (by omega),Hg (by omega)];simp
  |succ n ih=>
   intro i acc h;unfold G7.loop;have hs:s.size=Z s.data.toList:=by cases s;simp[ByteArray.size]
   rw[aC (by omega),ih (i+1) _ (by omega)];have hi:i<s.data.size:=by simpa using (by omega:i<Z s.data.toList)
   have e:s.get! i=s.data.toList[i]'(by simpa using hi):=by
    cases s;simp[ByteArray.get!,hi]
   rw[nb (i:=i) (by simpa using hi),e];simp
 have:=key s.size 0 [] (by omega);simpa[G7]using this
def size_data(s:ByteArray):s.size=Z s.data.toList:=by cases s;simp[ByteArray.size]
def qh3{op:BinOp}{x y:ByteArray}{v:O}(h:j8 op x.data.toList y.data.toList=.ok v)(w:aG):(Op.stringOp op x y).run P w=.ok v w:=by
 unfold j8 at h;split at h<;>simp only[Op.stringOp,toList_data,<-pj,<-MS]
 .cases hc:aM (Z x.data.toList+Z y.data.toList) 4611686018427387904 with
  |false=>rw[hc]at h;cases h
  |true=>
   rw[hc]at h;simp only[aI,av]at h;subst h;have hl:Z x.data.toList+Z y.data.toList<4611686018427387904:=by simpa[bT]using hc
   rw[aq]
   .show Result.ok _ _=_;have:x++y=⟨⟨x.data.toList++y.data.toList⟩⟩:=by
     apply ByteArray.ext;apply m8;simp
    rw[this];rfl
   .rw[size_data,size_data];simp only[IntKind.max,IntKind.signed,IntKind.bits,bR];omega
 all_goals first
  |(simp only[av]at h;subst h;rfl)
  |cases h
def qaN{op:BinOp}{k:cY}{a b:Int}{v:O}{t:aj}(h:bj op k a b=.ok v)(w:aG):(binOp op t (.int k a) (.int k b)).run P w=.ok v w:=by
 have hk:¬(k≠k):=λ h=>h rfl
 unfold bj at h;split at h<;>simp only[binOp,aq hk]
 .simp only[av]at h;subst h;rw[qt];rfl
 .simp only[av]at h;subst h;rw[qt];rfl
 .simp only[av]at h;subst h;rw[qt];rfl
 .exact Ny h w
 .exact Ny h w
 .exact EB h w
 .exact EB h w
 .exact EB h w
 .exact EB h w
 .simp only[av]at h;subst h;rw[xj];rfl
 .simp only[av]at h;subst h;rw[xj];rfl
 .simp only[av]at h;subst h;rw[AD];rfl
 .simp only[av]at h;subst h;rw[AD];show Result.ok _ _=_;congr 2;rw[qu];simp
 .simp only[av]at h;subst h;rw[AD];rfl
 .simp only[av]at h;subst h;rw[AD];show Result.ok _ _=_;congr 2;rw[qu];simp
 .cases h
 .cases h
end
section
def vY(k:Nat)(fn:Func):Prop:=
 fn.body=none/\(fn.name== "runtime.NumGoroutine")=false/\Extern.findNext fn=none/\
 match k with
 |1=>Extern.find fn=U Extern.AbiNoEscape.same
 |2=>Extern.find fn=U (Extern.SlicesOverlaps.overlaps fn.params fn.resultTypes)
 |3=>Extern.find fn=U (Extern.BytealgMakeNoZero.makeNoZero fn.params fn.resultTypes)
 |4=>Extern.find fn=U Extern.MapsClone.clone
 |5=>Extern.find fn=(Extern.MathBitsCarry.rows[0]?).map (·.2)
 |6=>Extern.find fn=U Extern.BytealgCount.count
 |7=>Extern.find fn=U Extern.BytealgIndexByte.indexByte
 |_=>False
def fP(P:cI)(f:FuncId)(h:List O->Mem->R (O×Mem)):Prop:=
 ∀(args:List O) (A:Mem) (v:O) (A':Mem),h args A=.ok (v,A')->A.next<=A'.next/\∀(ι:a8) (w:aG) (args':Array O),Rel ι A w->bn ι args args'.toList->ew ι A A'->
  ∀(fr:Frame) (cs:List Frame),∃ι' w' v',Steps P (lone (Frame.enter P f args' .normal) (fr::cs) w) (lone (fr.finish v') cs w')/\VR ι' v v'/\Rel ι' A' w'/\bZ ι A w ι' A' w'
structure dP (tb:aO):Prop where
 ty:∀t i,tb.ty.get t=U i->tb.P.info? t=U i
 fn:∀f fn,tb.fn.get f=U fn->tb.P.funcs[f]?=U fn
 mixed:tb.P.follows .mixedOrders=aa
 ex:∀f k fn,tb.ex.get f=U k->tb.fn.get f=U fn->vY k fn
 hk:∀f h,tb.hk.get f=U h->fP tb.P f h
variable {tb:aO}(ok:dP tb)
include ok
def sK{t:aj}{i:TypeInfo}(h:tb.ty.get t=U i)(w:aG):(typeInfo t).run tb.P w=.ok i w:=by
 simp[typeInfo,ok.ty t i h]
def Uo{t:aj}{d:TypeDesc}(h:tb.aB t=U d):tb.P.underlying t=U d:=by
 unfold aO.aB at h;unfold Program.underlying;cases hi:tb.ty.get t with
 |none=>rw[hi]at h;cases h
 |some i=>
  rw[hi]at h;rw[ok.ty t i hi];obtain⟨desc,str,size,bytes,hp,al,fa,zero,cmp,ms⟩:=i;simp only at h⊢;cases desc<;>simp only at h⊢<;>try (exact h)
  rename_i nm u;cases hu:tb.ty.get u with
  |none=>rw[hu]at h;cases h
  |some j=>
   rw[hu]at h;rw[ok.ty u j hu];exact h
def bK{t:aj}{d:TypeDesc}(h:tb.aB t=U d)(w:aG):(underlying t).run tb.P w=.ok d w:=by
 simp[underlying,Uo ok h]
def jB{t:aj}{n:Nat}(h:aY tb t=.ok n)(w:aG):(sizeOf t).run tb.P w=.ok n w:=by
 unfold aY at h;cases hi:tb.ty.get t with
 |none=>rw[hi]at h;cases h
 |some i=>
  rw[hi]at h;simp only[av]at h;subst h;simp[sizeOf,sK ok hi]
def FK{t:aj}{d:TypeDesc}(h:tb.aB t=U d)(w:aG):(isAgg t).run tb.P w=.ok (cW d) w:=by
 simp only[isAgg,aP,bK ok h,aQ];cases d<;>rfl
omit ok in
def Br {t:aj} {v:O} (h:cX tb t=.ok v):∃i,tb.ty.get t=U i/\i.zero=U v/\∀ι,VR ι v v:=by
 unfold cX at h;cases hi:tb.ty.get t with
 |none=>rw[hi]at h;cases h
 |some i=>
  rw[hi]at h;simp only at h;cases hz:i.zero with
  |none=>rw[hz]at h;cases h
  |some z=>
   rw[hz]at h;simp only at h;cases hc:sk 3 z with
   |false=>rw[hc]at h;cases h
   |true=>
    rw[hc]at h;simp only[aI,av]at h;subst h;exact⟨i,rfl,hz,λ ι=>E4 3 z hc⟩
def DZ{t:aj}{v:O}(h:cX tb t=.ok v)(w:aG):(zeroValue t).run tb.P w=.ok v w:=by
 obtain⟨i,hi,hz,_⟩:=Br h;simp[zeroValue,sK ok hi,hz]
omit ok
variable {ι:a8}{n:Nat}{τ:T O}{a:Act}
def dg{x:bA}{v:O}(h:ev τ x=.ok v)(ht:TR ι n τ a.tmps):VR ι v (a.eval x):=by
 cases x with
 |tmp i=>
  simp only[ev]at h;split at h
  .rename_i u hg;simp only[av]at h;subst h;obtain⟨v',e,r⟩:=ht.2 i u hg;simp only[Act.eval,LO,e];exact r
  .cases h
 |const c=>
  simp only[ev]at h;cases hc:sk 3 c with
  |false=>rw[hc]at h;cases h
  |true=>
   rw[hc]at h;simp only[aI,av]at h;subst h;exact E4 3 c hc
 |global g=>cases h
 |func f=>
  simp only[ev,av]at h;subst h;exact .func trivial .nil .nil
theorem yV:∀{xs:List bA} {vs:List O},eI τ xs=.ok vs->TR ι n τ a.tmps->bn ι vs (xs.map a.eval)
 | [],vs,h,_=>by simp only[eI,av]at h;subst h;exact .nil
 |x::xs,vs,h,ht=>by
  unfold eI at h;obtain⟨v,hv,h⟩:=R.aF h;obtain⟨us,hu,h⟩:=R.aF h;simp only[av]at h;subst h;exact .cons (dg hv ht) (yV hu ht)
inductive rQ (ι:a8):Option O->Option O->Prop
 |none:rQ ι Y Y
 |some {v v':O} (h:VR ι v v'):rQ ι (U v) (U v')
def Fb{x:Option bA}{v:Option O}(h:mQ τ x=.ok v)(ht:TR ι n τ a.tmps):rQ ι v (x.map a.eval):=by
 cases x with
 |none=>simp only[mQ,av]at h;subst h;exact .none
 |some x=>
  unfold mQ at h;obtain⟨v,hv,h⟩:=R.aF h;simp only[av]at h;subst h;exact .some (dg hv ht)
inductive yJ (ι:a8):List (Nat×O)->List (Nat×O)->Prop
 |nil:yJ ι [] []
 |cons {i:Nat} {v v':O} {l l':List (Nat×O)} (h:VR ι v v') (ht:yJ ι l l'):yJ ι ((i,v)::l) ((i,v')::l')
theorem Ja:∀{xs:List (Nat×bA)} {vs:List (Nat×O)},oM τ xs=.ok vs->TR ι n τ a.tmps->yJ ι vs (xs.map λ(i,x)=>(i,a.eval x))
 | [],vs,h,_=>by simp only[oM,av]at h;subst h;exact .nil
 |(i,x)::xs,vs,h,ht=>by
  unfold oM at h;obtain⟨v,hv,h⟩:=R.aF h;obtain⟨us,hu,h⟩:=R.aF h;simp only[av]at h;subst h;exact .cons (dg hv ht) (Ja hu ht)
variable {m:Nat}
def AP{v:O}(h:iC v=.ok m)(hv:VR ι v v'):∃k,v=.int k (.ofNat m)/\v'=.int k (.ofNat m):=by
 unfold iC at h;split at h
 .simp only[av]at h;subst h;cases hv;exact⟨_,rfl,rfl⟩
 .cases h
def qbx{op:BinOp}{t:aj}{m':Nat}{y:Int}{v:O}(h:JX op m y=.ok v)(hm:m<=m')(hb:m'<2^63):
 ∃v',(∀(P:cI) (w:aG),(binOp op t (.int .i64 (.ofNat m')) (.int .i64 y)).run P w=.ok v' w)/\VR ι v v':=by
 unfold JX at h;split at h
 .rename_i k;cases hc:au k m with
  |false=>rw[hc]at h;cases h
  |true=>
   rw[hc]at h;simp only[aI,av]at h;subst h;have:=jJ hc;refine⟨.bool af,λ P w=>?_,.bool _⟩;simp only[binOp,ne_eq,not_true_eq_false,bO,Op.intCmp];show Result.ok _ _=_;congr 2;simp only[decide_eq_false_iff_not,ig];omega
 .rename_i k;cases hc:au k m with
  |false=>rw[hc]at h;cases h
  |true=>
   rw[hc]at h;simp only[aI,av]at h;subst h;have:=jJ hc;refine⟨.bool aa,λ P w=>?_,.bool _⟩;simp only[binOp,ne_eq,not_true_eq_false,bO,Op.intCmp];show Result.ok _ _=_;congr 2;simp only[decide_eq_true_eq,ig];omega
 .rename_i k;cases hc:au k m with
  |false=>rw[hc]at h;cases h
  |true=>
   rw[hc]at h;simp only[aI,av]at h;subst h;have:=jJ hc;refine⟨.int .i64 (.ofNat (m'-k)),λ P w=>?_,.least (by omega) (by omega)⟩;simp only[binOp,ne_eq,not_true_eq_false,bO,Op.intArith];show Result.ok _ _=_;have e:IntKind.i64.wrap (cO m'-cO k)=cO (m'-k):=by
    have e1:cO m'-cO k=cO (m'-k):=by simp only[ig];omega
    rw[e1];refine xN ?_ ?_<;>simp only[IntKind.min,IntKind.max,IntKind.signed,IntKind.bits,bR,ig]<;>omega
   rw[e]
 .cases h
def qby{op:BinOp}{t:aj}{m':Nat}{y:Int}{v:O}(h:JY op y m=.ok v)(hm:m<=m'):
 ∃v',(∀(P:cI) (w:aG),(binOp op t (.int .i64 y) (.int .i64 (.ofNat m'))).run P w=.ok v' w)/\VR ι v v':=by
 unfold JY at h;split at h
 .rename_i k;cases hc:au k m with
  |false=>rw[hc]at h;cases h
  |true=>
   rw[hc]at h;simp only[aI,av]at h;subst h;have:=jJ hc;refine⟨.bool af,λ P w=>?_,.bool _⟩;simp only[binOp,ne_eq,not_true_eq_false,bO,Op.intCmp];show Result.ok _ _=_;congr 2;simp only[decide_eq_false_iff_not,ig];omega
 .rename_i k;cases hc:au k m with
  |false=>rw[hc]at h;cases h
  |true=>
   rw[hc]at h;simp only[aI,av]at h;subst h;have:=jJ hc;refine⟨.bool aa,λ P w=>?_,.bool _⟩;simp only[binOp,ne_eq,not_true_eq_false,bO,Op.intCmp];show Result.ok _ _=_;congr 2;simp only[decide_eq_true_eq,ig];omega
 .cases h
def yL:O->Prop
 |.bool _|.int _ _|.string _=>True
 |_=>False
def yL.vr{v:O}(h:yL v):VR ι v v:=by
 cases v<;>first|(constructor;done)|exact h.elim
def S9{op:BinOp}{k:cY}{x y:Int}{v:O}(h:DB op k x y=.ok v):yL v:=by
 unfold DB at h;split at h
 .simp only[av]at h;subst h;trivial
 .rename_i b;cases hb:aM b k.bits<;>rw[hb]at h<;>simp only[aI,ba,av]at h<;>subst h<;>trivial
 .cases h
def Wh{op:BinOp}{k:cY}{x y:Int}{v:O}(h:Cm op k x y=.ok v):yL v:=by
 unfold Cm at h;split at h
 iterate 3
  .rename_i p q;cases hb:(dj k (cO p)&&dj k (cO q))<;>rw[hb]at h<;>simp only[aI,ba,av,reduceCtorEq]at h;subst h;trivial
 .rename_i p q;cases hb:(dj k (cO p)&&dj k (Int.negSucc q))<;>rw[hb]at h<;>simp only[aI,ba,av,reduceCtorEq]at h;subst h;trivial
 .cases h
def YL{op:BinOp}{k:cY}{x y:Int}{v:O}(h:CG op k x y=.ok v):yL v:=by
 unfold CG at h;split at h
 .simp only[av]at h;subst h;trivial
 .simp only[av]at h;subst h;trivial
 .cases hb:ky y 0<;>rw[hb]at h<;>simp only[aI,ba,av,reduceCtorEq]at h;subst h;trivial
 .cases hb:ky y 0<;>rw[hb]at h<;>simp only[aI,ba,av,reduceCtorEq]at h;subst h;trivial
 .cases h
def qaM{op:BinOp}{k:cY}{x y:Int}{v:O}(h:bj op k x y=.ok v):yL v:=by
 unfold bj at h;split at h<;>first
  |(simp only[av]at h;subst h;trivial)
  |exact YL h
  |exact Wh h
  |cases h
def qh2{op:BinOp}{x y:List UInt8}{v:O}(h:j8 op x y=.ok v):yL v:=by
 unfold j8 at h;split at h
 .cases hb:aM (Z x+Z y) 4611686018427387904<;>rw[hb]at h<;>simp only[aI,ba,av,reduceCtorEq]at h;subst h;trivial
 all_goals first
  |(simp only[av]at h;subst h;trivial)
  |cases h
include ok in
def NS {t:aj} (hd:tb.aB t=U .bool) (a b:Bool) (w:aG):(Op.equal t (.bool a) (.bool b)).run tb.P w=.ok (a==b) w:=by
 unfold Op.equal Op.maxDepth;rw[Op.equalIn];simp only[aP,bK ok hd,aQ];rfl
include ok in
def Wd {op:BinOp} {t:aj} {x x' y y' v:O} (h:iu op (tb.aB t) x y=.ok v) (hx:VR ι x x') (hy:VR ι y y'):
 ∃v',(∀w:aG,(binOp op t x' y').run tb.P w=.ok v' w)/\VR ι v v':=by
 unfold iu at h;split at h
 .cases hx with
  |least hm hb=>cases hy;obtain⟨v',e,r⟩:=qbx (ι:=ι) h hm hb;exact⟨v',λ w=>e _ w,r⟩
 .cases hx;cases hy with
  |least hm hb=>obtain⟨v',e,r⟩:=qby (ι:=ι) h hm;exact⟨v',λ w=>e _ w,r⟩
 .cases hx;cases hy;rename_i k a k' b;split at h
  .exact⟨v,λ w=>S_ (yk:=k') h w,(S9 h).vr⟩
  .exact⟨v,λ w=>S_ (yk:=k') h w,(S9 h).vr⟩
  .cases hk:iA k k' with
   |false=>rw[hk]at h;cases h
   |true=>
    rw[hk]at h;obtain rfl:=C6 hk;simp only[aI]at h;exact⟨v,λ w=>qaN h w,(qaM h).vr⟩
 .cases hx;cases hy;refine⟨v,λ w=>?_,(qh2 h).vr⟩;have:=qh3 (P:=tb.P) h w;rw[<-this];cases op<;>rfl
 .rename_i a b;cases hx;cases hy;split at h
  .rename_i hd;simp only[av]at h;subst h;refine⟨.bool (a==b),λ w=>?_,?_⟩
   .show(do pure (Value.bool (<-Op.equal t (.bool a) (.bool b))):Sem O).run tb.P w=_;simp only[aP,NS ok hd,aQ];rfl
   .cases a<;>cases b<;>exact .bool _
  .rename_i hd;simp only[av]at h;subst h;refine⟨.bool (!(a==b)),λ w=>?_,?_⟩
   .show(do pure (Value.bool (!(<-Op.equal t (.bool a) (.bool b)))):Sem O).run tb.P w=_;simp only[aP,NS ok hd,aQ];rfl
   .cases a<;>cases b<;>exact .bool _
  .cases h
 .cases h
end
section
variable {tb:aO}(ok:dP tb){ι:a8}
variable {x' y:O}
def Y5{op:BinOp}{d:Option TypeDesc}{t:aj}{ox oy:bA}{x y' v:O}(h:iu op d x y=.ok v)(hx:VR ι x x')(hy:VR ι y y')(P:cI)(w:aG):
 (eqGuard op t ox oy x' y').run P w=.ok () w:=by
 have key:∀(a b:O),(∀p q,¬(a=.nilIface/\b=.nilIface)/\¬(a=.agg p/\b=.agg q))->(eqGuard op t ox oy a b).run P w=.ok () w:=by
  intro a b hab;unfold eqGuard;cases op<;>first
   |rfl
   |(cases a<;>first
    |rfl
    |(cases b<;>first
     |rfl
     |exact aZ ⟨rfl,rfl⟩ (hab #[] #[]).1
     |exact aZ ⟨rfl,rfl⟩ (hab _ _).2))
 refine key _ _ λ p q=>?_
 unfold iu at h;split at h
 .cases hx with
  |least hm hb=>cases hy;exact⟨by simp,by simp⟩
 .cases hx;exact⟨by simp,by simp⟩
 .cases hx;exact⟨by simp,by simp⟩
 .cases hx;exact⟨by simp,by simp⟩
 .cases hx;exact⟨by simp,by simp⟩
 .cases h
def UJ{k:cY}(n:Int):k.wrap ((BitVec.ofInt k.bits (-1)^^^BitVec.ofInt k.bits n).toNat:Int)=k.wrap (-1-n):=by
 have hM:(0:Int)<2^k.bits:=Int.pow_pos (by omega);have e1:BitVec.ofInt k.bits (-1)=BitVec.allOnes k.bits:=by
  apply BitVec.eq_of_toInt_eq;rw[BitVec.toInt_ofInt,BitVec.toInt_allOnes];cases k<;>decide
 have e2:((BitVec.ofInt k.bits (-1)^^^BitVec.ofInt k.bits n).toNat:Int)=2^k.bits-1-n % 2^k.bits:=by
  rw[e1,BitVec.xor_comm,BitVec.xor_allOnes,BitVec.toNat_not,BitVec.toNat_ofInt];have h1:=Int.emod_nonneg n (b:=2^k.bits) (by omega);have h2:=Int.emod_lt_of_pos n hM;have h3:((2^k.bits:Nat):Int)=2^k.bits:=by push_cast;rfl
  rw[h3];omega
 rw[e2];have e3:(2^k.bits-1-n % 2^k.bits:Int) % 2^k.bits=(-1-n) % 2^k.bits:=by
  have h:=Int.mul_ediv_add_emod n (2^k.bits);have:(2^k.bits-1-n % 2^k.bits:Int)=(-1-n)+2^k.bits*(n/2^k.bits+1):=by
   rw[Int.mul_add,Int.mul_one];omega
  rw[this,Int.add_mul_emod_self_left]
 unfold IntKind.wrap;simp only[e3]
def qiI{op:UnOp}{x v:O}(h:Bi op x=.ok v)(hx:VR ι x x'):∃v',(∀(P:cI) (w:aG),(Op.unary op x').run P w=.ok v' w)/\VR ι v v':=by
 unfold Bi at h;split at h
 .cases hx;simp only[av]at h;subst h;refine⟨_,λ P w=>?_,.int _ _⟩;rw[qt];rfl
 .cases hx;rename_i k n;cases hs:k.signed with
  |true=>
   rw[hs]at h;simp only[aI,av]at h;subst h;refine⟨_,λ P w=>?_,.int _ _⟩;simp only[Op.unary,hs,bR,Op.intBits];show Result.ok _ _=_;rw[qt,show Int.negSucc n=-1-cO n by simp only[ig];omega,<-UJ]
  |false=>
   rw[hs]at h;cases hk:dj k (.ofNat n)with
   |false=>rw[hk]at h;cases h
   |true=>
    rw[hk]at h;simp only[aI,ba,av]at h;subst h;refine⟨_,λ P w=>?_,.int _ _⟩;simp only[Op.unary,hs,ed,bO,Op.intBits];obtain⟨h1,h2⟩:=Pg hk;have hmax:k.max=2^k.bits-1:=by simp[IntKind.max,hs]
    have hpos:0<2^k.bits:=Nat.pow_pos (by omega);have hn:n<2^k.bits:=by
     rw[hmax]at h2;have:((2^k.bits:Nat):Int)=2^k.bits:=by push_cast;rfl
     simp only[ig]at h2;omega
    have e1:BitVec.ofInt k.bits k.max=BitVec.allOnes k.bits:=by
     rw[hmax];have:(2^k.bits-1:Int)=((2^k.bits-1:Nat):Int):=by
      rw[Int.natCast_sub (by omega)];push_cast;rfl
     rw[this,BitVec.ofInt_natCast];apply BitVec.eq_of_toNat_eq;rw[BitVec.toNat_ofNat,BitVec.toNat_allOnes,rH (by omega)]
    have e2:BitVec.ofInt k.bits (cO n)=BitVec.ofNat k.bits n:=BitVec.ofInt_natCast ..;rw[e1,e2,BitVec.xor_comm,BitVec.xor_allOnes,BitVec.toNat_not,BitVec.toNat_ofNat,rH hn];have e3:k.wrap (cO (2^k.bits-1-n))=cO (2^k.bits-1-n):=by
     refine xN ?_ ?_
     .have:k.min=0:=by simp[IntKind.min,hs]
      rw[this];exact zJ _
     .rw[hmax];have:((2^k.bits:Nat):Int)=2^k.bits:=by push_cast;rfl
      simp only[ig];omega
    exact cV (λ z=>Result.ok (Value.int k z) w) e3
 .cases hx;rename_i k n;cases hs:k.signed with
  |false=>rw[hs]at h;cases h
  |true=>
   rw[hs]at h;simp only[aI,av]at h;subst h;refine⟨_,λ P w=>?_,.int _ _⟩;simp only[Op.unary,hs,bR,Op.intBits];show Result.ok _ _=_;rw[qt,show cO n=-1-Int.negSucc n by simp only[ig];omega,<-UJ]
 .cases hx;simp only[av]at h;subst h;exact⟨_,λ P w=>rfl,.bool _⟩
 .cases h
variable {m:Nat}
def vo{x:O}{k:cY}{y:Nat}{c:BoundsCode}(hx:x=.int k (.ofNat m))(hm:m<=y)(P:cI)(w:aG):
 (Instr.sliceBound x y c).run P w=.ok m w:=by
 subst hx;simp only[Instr.sliceBound,asIntOf,aP,aW,aQ];rw[aC ⟨zJ _,by simp only[ig];omega⟩];rfl
def tz{v v':Option O}{most:Nat}(h:bound v d most=.ok m)(hv:rQ ι v v'):
 (v=Y/\v'=Y/\m=d)\/(∃x k,v=U x/\v'=U (.int k (.ofNat m))/\m<=most):=by
 cases hv with
 |none=>simp only[bound,av]at h;exact .inl ⟨rfl,rfl,h.symm⟩
 |some hx=>
  simp only[bound]at h;split at h
  .rename_i n hn;obtain⟨k,rfl,rfl⟩:=AP hn hx;cases hb:au n most with
   |false=>rw[hb]at h;cases h
   |true=>
    rw[hb]at h;simp only[aI,av]at h;subst h;exact .inr ⟨_,k,rfl,rfl,jJ hb⟩
  .cases h
variable {cap:Nat}
def La{lo lo' hi hi':Option O}{len cap' h l:Nat}{isS:Bool}(hh:bound hi len cap=.ok h)(hl:bound lo 0 h=.ok l)(vl:rQ ι lo lo')(vh:rQ ι hi hi')
 (hc:cap<=cap')(P:cI)(w:aG):(Instr.sliceBounds isS len cap' lo' hi' Y).run P w=.ok (l,h,cap') w:=by
 unfold Instr.sliceBounds;rcases tz hh vh with⟨_,rfl,rfl⟩|⟨_,k,_,rfl,hm⟩<;>rcases tz hl vl with⟨_,rfl,rfl⟩|⟨_,k2,_,rfl,hm2⟩
 .rfl
 .simp only[aP,aW,aQ,vo rfl hm2,yl,ed,bO]
 .simp only[aP,aW,aQ,vo rfl (dp hm hc)]
 .simp only[aP,aW,aQ,vo rfl (dp hm hc),vo rfl hm2,yl,ed,bO]
def qhu{lo lo':Option O}{hi hi' mx mx':O}{len cap' h l:Nat}{isS:Bool}(hm:bound (U mx) 0 cap=.ok m)(hh:bound (U hi) 0 m=.ok h)(hl:bound lo 0 h=.ok l)
 (vl:rQ ι lo lo')(vh:VR ι hi hi')(vm:VR ι mx mx')(hc:cap<=cap')(P:cI)(w:aG):
 (Instr.sliceBounds isS len cap' lo' (U hi') (U mx')).run P w=.ok (l,h,m) w:=by
 unfold Instr.sliceBounds;rcases tz hm (.some vm)with⟨h1,_,_⟩|⟨_,k,_,h1,hm1⟩
 .cases h1
 .cases h1;rcases tz hh (.some vh)with⟨h1,_,_⟩|⟨_,k1,_,h1,hm2⟩
  .cases h1
  .cases h1;rcases tz hl vl with⟨_,rfl,rfl⟩|⟨_,k2,_,rfl,hm3⟩
   .simp only[aP,aW,aQ,vo rfl (dp hm1 hc),vo rfl hm2]
   .simp only[aP,aW,aQ,vo rfl (dp hm1 hc),vo rfl hm2,vo rfl hm3]
def UY{a:Addr}(h:a.spot=Y)(n:Nat):a.add n=fi a n:=by
 obtain⟨b,o,s⟩:=a;cases h;unfold Addr.add fi;split
 .rename_i h;subst h;rfl
 .rfl
def om(b o n:Nat):(⟨b,o,Y⟩:Addr).add n=⟨b,o+n,Y⟩:=UY rfl n
def Md(b o s n:Nat):(U (⟨b,o+s,Y⟩:Addr)).map (·.add n)=U ⟨b,o+n+s,Y⟩:=by
 simp only[fZ,om];rw[yf]
variable {c:Nat}
def X'(h:dH c=aa):bH c=c/2:=by unfold bH;rw[h];rfl
def wV(n:Nat):dH (2*n)=aa:=by
 unfold dH;show aL ((2*n) % 2) 0=aa;rw[Ej];rfl
def qb(n:Nat):bH (2*n)=n:=by rw[X' (wV n)];omega
def iK(n e:Nat):dH (cu n e)=af:=by unfold dH cu;show aL ((2*(n*65536+e)+1) % 2) 0=af;rw[show(2*(n*65536+e)+1) % 2=1 by omega];rfl
def gB{e:Nat}(h:e<65536):bH (cu n e)=n:=by
 unfold bH;rw[iK];show(2*(n*65536+e)+1)/2/65536=n;omega
def lj{e:Nat}(h:e<65536):gM (cu n e)=e:=by
 unfold gM cu;show(2*(n*65536+e)+1)/2 % 65536=e;omega
def Nc(c:Nat):gM c<65536:=iU _ (by omega)
def yP(c l:Nat):dH (jt c l)=dH c:=by
 unfold jt;cases h:dH c with
 |true=>exact wV _
 |false=>exact iK ..
def uG(c l:Nat):bH (jt c l)=bH c-l:=by
 unfold jt;cases h:dH c with
 |true=>exact qb _
 |false=>exact gB (Nc c)
def ET{l:Nat}(h:dH c=af):gM (jt c l)=gM c:=by
 unfold jt;rw[h];exact lj (Nc c)
def extract_eq(s:ByteArray)(l h:Nat):s.extract l h=⟨⟨(s.data.toList.take h).drop l⟩⟩:=by
 apply ByteArray.ext;apply m8;simp[ByteArray.data_extract,List.drop_take]
include ok in
def qhv {t:aj} {x x' v:O} {lo lo' hi hi' mx mx':Option O} (h:eD tb t x lo hi mx=.ok v) (hx:VR ι x x') (vl:rQ ι lo lo') (vh:rQ ι hi hi') (vm:rQ ι mx mx'):
 ∃v',(∀w:aG,(Instr.sliceAt t x' lo' hi' mx').run tb.P w=.ok v' w)/\VR ι v v':=by
 unfold eD at h;split at h
 ·
  rename_i s hd;cases hx;cases vm with
  |some _=>cases h
  |none=>
   simp only at h;obtain⟨hh,e1,h0⟩:=R.aF h;clear h;have h:=h0;clear h0;obtain⟨l,e2,h0⟩:=R.aF h;clear h;have h:=h0;clear h0;simp only[av]at h;subst h;refine⟨.string (s.extract l hh),λ w=>?_,?_⟩
   .simp only[Instr.sliceAt,Instr.slice,aP,bK ok hd,aQ];have:=La (isS:=af) e1 e2 vl vh (aJ _) tb.P w;rw[<-size_data]at this;simp only[yl,ed,bO,aP,aW,aQ,this]
   .rw[extract_eq];exact .string _
 ·
  rename_i elem a len cap hd;cases vm with
  |none=>
   simp only at h;obtain⟨hh,e1,h0⟩:=R.aF h;clear h;have h:=h0;clear h0;obtain⟨l,e2,h0⟩:=R.aF h;clear h;have h:=h0;clear h0;obtain⟨size,e3,h0⟩:=R.aF h;clear h;have h:=h0;clear h0;have run:∀(a':Option Addr) (cap':Nat),bH cap<=cap'->∀w:aG,(Instr.sliceAt t (.slice a' len cap') lo' hi' Y).run tb.P w=
    .ok (.slice (if cap'=l then a' else a'.map (·.add (l*size))) (hh-l) (cap'-l)) w:=by
    intro a' cap' hc w;simp only[Instr.sliceAt,Instr.slice,aP,bK ok hd,aQ,La e1 e2 vl vh hc,jB ok e3,aW]
   have bh:hh<=max len (bH cap)/\(hh<=len\/hh<=bH cap):=by
    rcases tz e1 vh with⟨_,_,rfl⟩|⟨_,_,_,_,hm⟩
    .exact⟨Nat.le_max_left ..,.inl (aJ _)⟩
    .exact⟨dp hm (Nat.le_max_right ..),.inr hm⟩
   have bl:l<=hh:=by
    rcases tz e2 vl with⟨_,_,rfl⟩|⟨_,_,_,_,hm⟩
    .omega
    .exact hm
   cases hx with
   |slN=>
    simp only[av]at h;subst h;have h0:bH 0=0:=rfl;refine⟨.slice Y 0 0,λ w=>?_,.slN⟩;rw[run Y 0 (by rw[h0];omega) w];have:hh=0:=by rw[h0]at bh;omega
    subst this;simp
   |sl hl hk=>
    rename_i b o lc;simp only[hk,t_]at h;cases hb:aL (bH cap) l with
    |true=>
     rw[hb]at h;simp only[aI,av]at h;subst h;have hbl:=beq_true hb;refine⟨_,run _ _ (aJ _),?_⟩;rw[aC hbl,show bH cap-l=0 by omega];exact VR.sl hl rfl
    |false=>
     have hbl:=beq_false hb;rw[hb]at h;simp only[ba,gh,hk,aI,av]at h;subst h;refine⟨_,run _ _ (aJ _),?_⟩;rw[aq hbl];rw[Md,<-uG];exact VR.sl hl (by rw[yP];exact hk)
   |slX hl hk hc hsz ho hb hlen=>
    rename_i b o o' cap' lc;simp only[hk,zB,ba]at h;cases hf:gh cap size with
    |false=>rw[hf]at h;cases h
    |true=>
     rw[hf]at h;simp only[aI,av]at h;subst h;have hsize:gM cap=size:=by
      unfold gh at hf;rw[hk]at hf;exact beq_true hf
     refine⟨_,run _ _ hc,?_⟩;have hhc:hh<=bH cap:=by omega
     by_cases hcl:cap'=l
     .rw[aC hcl];have h0:bH cap-l=0:=by omega
      refine VR.slX hl (by rw[yP];exact hk) (by rw[uG];omega) ?_ (by omega) (by omega) (by rw[uG];omega);rw[ET hk,show cap'-l=0 by omega];have:=dp (Nat.le_add_right o' (cap'*gM cap)) hsz;omega
     .rw[aq hcl];have e:(U (⟨lc.blk,o',Y⟩:Addr)).map (·.add (l*size))=U ⟨lc.blk,o'+l*size,Y⟩:=by
       simp only[fZ,om]
      rw[e];refine VR.slX hl (by rw[yP];exact hk) (by rw[uG];omega) ?_ ?_ (by omega) (by rw[uG];omega)
      .rw[ET hk,hsize];rw[hsize]at hsz;have hlc:l<=cap':=by omega
       have:(cap'-l)*size+l*size=cap'*size:=by rw[<-oZ];congr 1;omega
       omega
      .intro hp;have:=ho (by omega);show o'+l*size=o+l*size+lc.sh;omega
  |some hv=>
   rename_i mx0 mx1;simp only at h;obtain⟨m,e0,h0⟩:=R.aF h;clear h;have h:=h0;clear h0;obtain⟨hh,e1,h0⟩:=R.aF h;clear h;have h:=h0;clear h0;obtain⟨l,e2,h0⟩:=R.aF h;clear h;have h:=h0;clear h0;obtain⟨size,e3,h0⟩:=R.aF h;clear h;have h:=h0;clear h0;cases vh with
   |none=>simp only at h;cases h
   |some vhh=>
    rename_i hi0 hi1;have run:∀(a':Option Addr) (cap':Nat),bH cap<=cap'->∀w:aG,(Instr.sliceAt t (.slice a' len cap') lo' (U hi1) (U mx1)).run tb.P w=
     .ok (.slice (if m=l then a' else a'.map (·.add (l*size))) (hh-l) (m-l)) w:=by
     intro a' cap' hc w;simp only[Instr.sliceAt,Instr.slice,aP,bK ok hd,aQ,qhu e0 e1 e2 vl vhh hv hc,jB ok e3,aW]
    have bl:l<=hh/\hh<=m/\m<=bH cap:=by
     rcases tz e0 (.some hv)with⟨h1,_,_⟩|⟨_,_,_,_,hm⟩
     .cases h1
     .rcases tz e1 (.some vhh)with⟨h1,_,_⟩|⟨_,_,_,_,hm1⟩
      .cases h1
      .rcases tz e2 vl with⟨_,_,rfl⟩|⟨_,_,_,_,hm2⟩<;>omega
    have fin:∀{b o o':Nat} {lc:Loc},ι b=U lc->(0<bH cap->o'=o+lc.sh)->o'=o+lc.sh\/m=0->
     (bif aL m l then(R.ok (Value.slice (U ⟨b,o,Y⟩) (hh-l) 0))else .ok (.slice (U (fi ⟨b,o,Y⟩ (l*size))) (hh-l) (2*(m-l))))=.ok v->
     VR ι v (.slice (if m=l then U ⟨lc.blk,o',Y⟩else(U (⟨lc.blk,o',Y⟩:Addr)).map (·.add (l*size))) (hh-l) (m-l))\/o'≠o+lc.sh:=by
     intro b o o' lc hl _ hoo h;by_cases hne:o'=o+lc.sh
     .left;subst hne;by_cases hml:m=l
      .have hb:aL m l=aa:=by rw[pS];exact hml
       rw[hb]at h;simp only[aI,av]at h;subst h;rw[aC hml,show m-l=0 by omega];exact VR.sl hl rfl
      .have hb:aL m l=af:=by
        cases hx:aL m l with
        |false=>rfl
        |true=>exact aZ (beq_true hx) hml
       rw[hb]at h;simp only[ba,av]at h;subst h;rw[aq hml];rw[Md];have:=VR.sl (ι:=ι) (o:=o+l*size) (len:=hh-l) (k:=2*(m-l)) hl (wV _);rw[qb]at this;exact this
     .exact .inr hne
    cases hx with
    |slN=>
     simp only[av]at h;subst h;have h0:bH 0=0:=rfl;refine⟨.slice Y 0 0,λ w=>?_,.slN⟩;rw[run Y 0 (by rw[h0];omega) w];rw[h0]at bl;have e1:m=0:=by omega
     have e2:l=0:=by omega
     have e3:hh=0:=by omega
     subst e1 e2 e3;simp
    |sl hl hk=>
     refine⟨_,run _ _ (aJ _),?_⟩;rcases fin hl (λ _=>rfl) (.inl rfl) (by simp only[hk,Bool.true_or,aI]at h;exact h)with h1|h1
     .exact h1
     .exact aZ rfl h1
    |slX hl hk hc hsz ho hb hlen=>
     rename_i b o o' cap' lc;simp only[hk,Bool.false_or]at h;cases hf:gh cap size&&aM 0 (bH cap)with
     |false=>rw[hf]at h;cases h
     |true=>
      rw[hf]at h;simp only[aI]at h;simp only[dz]at hf;have h0:=jK hf.2;refine⟨_,run _ _ hc,?_⟩;rcases fin hl (λ hp=>ho (by omega)) (.inl (ho (by omega))) h with h1|h1
      .exact h1
      .exact aZ (ho (by omega)) h1
 ·
  rename_i len elem a hd;cases hx with
  |ptr hl=>
   rename_i b o lc;cases vm with
   |some _=>simp only at h;cases h
   |none=>
    simp only at h;obtain⟨hh,e1,h0⟩:=R.aF h;clear h;have h:=h0;clear h0;obtain⟨l,e2,h0⟩:=R.aF h;clear h;have h:=h0;clear h0;obtain⟨size,e3,h0⟩:=R.aF h;clear h;have h:=h0;clear h0;have run:∀w:aG,(Instr.sliceAt t (.pointer (U ⟨lc.blk,o+lc.sh,Y⟩)) lo' hi' Y).run tb.P w=
     .ok (.slice (U (if len=l then⟨lc.blk,o+lc.sh,Y⟩else(⟨lc.blk,o+lc.sh,Y⟩:Addr).add (l*size))) (hh-l) (len-l)) w:=by
     intro w;simp only[Instr.sliceAt,Instr.sureAddr,aP,bK ok hd,aQ,La e1 e2 vl vh (aJ _),jB ok e3,aW]
    refine⟨_,run,?_⟩;cases hb:aL len l with
    |true=>
     rw[hb]at h;simp only[aI,av]at h;subst h;have hml:=beq_true hb;rw[aC hml,show len-l=0 by omega];exact VR.sl hl rfl
    |false=>
     rw[hb]at h;simp only[ba,av]at h;subst h;have hml:=beq_false hb;rw[aq hml,om];have:=VR.sl (ι:=ι) (o:=o+l*size) (len:=hh-l) (k:=2*(len-l)) hl (wV _);rw[qb,show o+l*size+lc.sh=o+lc.sh+l*size by omega]at this;exact this
 .cases h
end
section
variable {tb:aO}(ok:dP tb){ι:a8}
include ok in
def ZN {t:aj} {x x' v:O} {i:Nat} (h:bM tb t x i=.ok v) (hx:VR ι x x'):
 ∃v',(∀w:aG,(Instr.fieldAt t x' i).run tb.P w=.ok v' w)/\VR ι v v':=by
 unfold bM at h;split at h
 .rename_i fs a hd;cases hx with
  |ptr hl=>
   rename_i b o lc;simp only at h;split at h
   .rename_i f _ hf;obtain⟨n,e1,h1⟩:=R.aF h;cases hb:aL n 0 with
    |true=>rw[hb]at h1;cases h1
    |false=>
     rw[hb]at h1;simp only[ba,av]at h1;subst h1;refine⟨.pointer (U ⟨lc.blk,o+f.offset+lc.sh,Y⟩),λ w=>?_,?_⟩
     .have hf':fs[i]?=U f:=by rw[<-fW];exact hf
      simp only[Instr.fieldAt,aP,bK ok hd,aQ,hf',Instr.sureAddr,aW,fieldPlace,jB ok e1,aq (beq_false hb),om];rw[yf]
     .exact VR.ptr hl
   .cases h
 .cases h
include ok in
def Pj {t:aj} {x x' y y' v:O} (h:dQ tb t x y=.ok v) (hx:VR ι x x') (hy:VR ι y y'):
 ∃v',(∀w:aG,(Instr.indexAt t x' y').run tb.P w=.ok v' w)/\VR ι v v':=by
 unfold dQ at h;split at h
 .cases h
 .rename_i i hi;obtain⟨k,rfl,rfl⟩:=AP hi hy;have h0:(0:Int)<=cO i:=zJ _;split at h
  .rename_i len elem a hd;cases hx with
   |ptr hl=>
    rename_i b o lc;simp only at h;cases hb:aM i len with
    |false=>rw[hb]at h;cases h
    |true=>
     rw[hb]at h;simp only[aI]at h;obtain⟨n,e1,h1⟩:=R.aF h;simp only[av]at h1;subst h1;have hlt:=jK hb;refine⟨.pointer (U ⟨lc.blk,o+i*n+lc.sh,Y⟩),λ w=>?_,VR.ptr hl⟩;have hc:(0:Int)<=cO i/\cO i<(len:Int):=⟨h0,by simp only[ig];omega⟩;simp only[Instr.indexAt,asIntOf,aP,aW,bK ok hd,aQ,Instr.sureAddr,aC hc,jB ok e1,om];show Result.ok (Value.pointer (U ⟨lc.blk,o+lc.sh+i*n,Y⟩)) w=_;rw[yf]
  .rename_i elem a len cap hd;have core:∀{b o o' cap':Nat} {lc:Loc},ι b=U lc->(i<len->o'=o+lc.sh)->a=⟨b,o,Y⟩->
    ∃v',(∀w:aG,(Instr.indexAt t (.slice (U ⟨lc.blk,o',Y⟩) len cap') (.int k (.ofNat i))).run tb.P w=.ok v' w)/\VR ι v v':=by
    intro b o o' cap' lc hl ho ha;subst ha;simp only at h;cases hb:aM i len with
    |false=>rw[hb]at h;cases h
    |true=>
     rw[hb]at h;simp only[aI]at h;obtain⟨n,e1,h1⟩:=R.aF h;simp only[av]at h1;subst h1;have hlt:=jK hb;refine⟨.pointer (U ⟨lc.blk,o+i*n+lc.sh,Y⟩),λ w=>?_,VR.ptr hl⟩;have hc:(0:Int)<=cO i/\cO i<(len:Int):=⟨h0,by simp only[ig];omega⟩;simp only[Instr.indexAt,asIntOf,aP,aW,bK ok hd,aQ,aC hc,jB ok e1,om];show Result.ok (Value.pointer (U ⟨lc.blk,o'+i*n,Y⟩)) w=_;rw[ho hlt,yf]
   cases hx with
   |sl hl hk=>exact core hl (λ _=>rfl) rfl
   |slX hl hk hc hsz ho hb hlen=>exact core hl (λ hlt=>ho (by omega)) rfl
  .cases h
include ok in
def zd {t:aj} {cs:List O} {cs':Array O} {off:Nat} {v:O} (h:nS tb t cs off=.ok v) (hc:bn ι cs cs'.toList):
 ∃v',(∀w:aG,(part t cs' off).run tb.P w=.ok v' w)/\VR ι v v':=by
 unfold nS at h;split at h
 .cases h
 .rename_i d hd;cases ha:cW d with
  |true=>
   rw[ha]at h;simp only[aI]at h;obtain⟨n,e1,h1⟩:=R.aF h;simp only[av]at h1;subst h1;refine⟨.agg (cs'.extract off (off+n)),λ w=>?_,?_⟩
   .simp only[part,aP,FK ok hd,ha,aQ,bR,jB ok e1,aW]
   .refine .agg ?_;have:(cs'.extract off (off+n)).toList=(cs'.toList.drop off).take n:=by
     simp[Array.toList_extract,List.extract_eq_take_drop]
    rw[this];exact(hc.drop off).take n
  |false=>
   rw[ha]at h;simp only[ba]at h;split at h
   .rename_i x hx;simp only[av]at h;subst h;obtain⟨x',e,r⟩:=hc.get _ _ hx;have e':cs'[off]?=U x':=by rw[<-fW];exact e
    refine⟨x',λ w=>?_,r⟩;simp only[part,aP,FK ok hd,ha,aQ,ed,bO,e',aW]
   .cases h
include ok in
def ZO {t:aj} {x x' v:O} {i:Nat} (h:Au tb t x i=.ok v) (hx:VR ι x x'):
 ∃v',(∀w:aG,(Instr.field t x' i).run tb.P w=.ok v' w)/\VR ι v v':=by
 unfold Au at h;split at h
 .rename_i fs cs hd;cases hx with
  |agg hc=>
   split at h
   .rename_i f hf;obtain⟨v',e,r⟩:=zd ok h hc;refine⟨v',λ w=>?_,r⟩;have hf':fs[i]?=U f:=by rw[<-fW];exact hf
    simp only[Instr.field,aP,bK ok hd,aQ,hf',asAgg,aW,e]
   .cases h
 .cases h
include ok in
def qaK {t:aj} {x x' y y' v:O} (h:uS tb t x y=.ok v) (hx:VR ι x x') (hy:VR ι y y'):
 ∃v',(∀w:aG,(Instr.index t x' y').run tb.P w=.ok v' w)/\VR ι v v':=by
 unfold uS at h;split at h
 .cases h
 .rename_i i hi;obtain⟨k,rfl,rfl⟩:=AP hi hy;have h0:(0:Int)<=cO i:=zJ _;split at h
  .rename_i len elem cs hd;cases hx with
   |agg hcs=>
    cases hb:aM i len with
    |false=>rw[hb]at h;cases h
    |true=>
     rw[hb]at h;simp only[aI]at h;obtain⟨n,e1,h1⟩:=R.aF h;obtain⟨v',e,r⟩:=zd ok h1 hcs;have hlt:=jK hb;have hc:(0:Int)<=cO i/\cO i<(len:Int):=⟨h0,by simp only[ig];omega⟩;refine⟨v',λ w=>?_,r⟩;simp only[Instr.index,asIntOf,aP,aW,bK ok hd,aQ,aC hc,jB ok e1];exact e w
  .rename_i s hd;cases hx;split at h
   .rename_i b hb;simp only[av]at h;subst h;refine⟨_,λ w=>?_,.int _ _⟩;have hs:s[(cO i).toNat]?=U b:=by
     show s[i]?=U b;have hlt:i<Z s.data.toList:=by
      rcases d_ i (Z s.data.toList)with h|h
      .exact h
      .rw[lW h]at hb;cases hb
     have hlt':i<s.size:=by rw[size_data];exact hlt
     rw[getElem?_pos s i hlt'];rw[aV hlt]at hb;rw[<-hb];rfl
    simp only[Instr.index,asIntOf,aP,aW,bK ok hd,aQ,aC h0,hs];rfl
   .cases h
  .cases h
def ZX(vs:List O):∀(off:Nat) (cells:Array O) (j:Nat),off+j+Z vs<=cells.size->
 ((vs.zipIdx j).foldl (λ cs (p:O×Nat)=>cs.setIfInBounds (off+p.2) p.1) cells).toList=xJ cells.toList (off+j) vs:=by
 induction vs with
 |nil=>intro off cells j h;simp[xJ]
 |cons v vs ih=>
  intro off cells j h;simp only[cd]at h;rw[List.zipIdx_cons,mG,ih off _ (j+1) (by simp;omega)];simp only[xJ,Array.toList_setIfInBounds,cd];rw[List.take_set,List.drop_set,aC (by omega)];have e1:(cells.toList.take (off+(j+1))).set (off+j) v=cells.toList.take (off+j)++[v]:=by
   have hmin:min (off+j) cells.size=off+j:=by omega
   rw[show off+(j+1)=off+j+1 by omega,eH (by simp;omega),List.set_append];simp[hmin]
  rw[e1,show off+(j+1)+Z vs=off+j+(Z vs+1) by omega];simp
def qhI{a a' b b':List O}(off:Nat)(ha:bn ι a a')(hb:bn ι b b'):bn ι (xJ a off b) (xJ a' off b'):=by
 unfold xJ;rw[hb.length];exact((ha.take off).append hb).append (ha.drop _)
theorem Fx{pl pl':Nat->Option (Nat×Nat)}(hp:∀i x,pl i=U x->pl' i=U x):∀{parts parts':List (Nat×O)} {cells:List O} {cells':Array O} {r:List O},yZ pl cells parts=U r->
 bn ι cells cells'.toList->yJ ι parts parts'->∃r',Instr.fill pl' cells' parts'=U r'/\bn ι r r'.toList
 | [],_,cells,cells',r,h,hc,.nil=>by simp only[yZ,eM]at h;subst h;exact⟨cells',rfl,hc⟩
 |(i,v)::rest,_,cells,cells',r,h,hc,.cons hv ht=>by
  rename_i v' rest';unfold yZ at h;split at h
  .cases h
  .rename_i off size hpl;have hlen:=hv.cells.length;simp only[xO]at hlen;have hlc:=hc.length;simp only[xO]at hlc;cases hb:(aL (Z v.cells.toList) size&&au (off+size) (Z cells))with
   |false=>rw[hb]at h;cases h
   |true=>
    rw[hb]at h;simp only[aI]at h;simp only[dz]at hb;have h1:=beq_true hb.1;have h2:=jJ hb.2;simp only[xO]at h1;unfold Instr.fill;rw[hp i _ hpl];simp only
    rw[aq]
    .have hs:=qhI (ι:=ι) off hc hv.cells;have hf:=ZX v'.cells.toList off cells' 0 (by simp;omega);have e:(v'.cells.zipIdx.foldl (λ cs (p:O×Nat)=>cs.setIfInBounds (off+p.2) p.1) cells').toList=xJ cells'.toList off v'.cells.toList:=by
      rw[<-Array.foldl_toList,Array.toList_zipIdx];exact hf
     refine Fx hp h ?_ ht;rw[show(Array.foldl (λ cs x=>match x with|(c,j)=>cs.setIfInBounds (off+j) c) cells' v'.cells.zipIdx)=v'.cells.zipIdx.foldl (λ cs (p:O×Nat)=>cs.setIfInBounds (off+p.2) p.1) cells' from rfl,e];exact hs
    .simp only[D7,decide_eq_true_eq,ne_eq];omega
include ok in
theorem Rp:∀{fs:List Field} {l:List (Nat×Nat)},Dn tb fs=.ok l->∀w:aG,(fs.mapM λ f=>do pure (f.offset,<-sizeOf f.type):Sem (List (Nat×Nat))).run tb.P w=.ok l w
 | [],l,h,w=>by simp only[Dn,av]at h;subst h;rfl
 |f::fs,l,h,w=>by
  unfold Dn at h;obtain⟨n,e1,h1⟩:=R.aF h;obtain⟨l',e2,h2⟩:=R.aF h1;simp only[av]at h2;subst h2;have:=Rp e2 w;simp only[List.mapM_cons,aP,aW,jB ok e1,aQ,this]
include ok in
def WQ {t:aj} {parts parts':List (Nat×O)} {v:O} (h:ef tb t parts=.ok v) (hp:yJ ι parts parts'):
 ∃v',(∀w:aG,(Instr.build t parts'.toArray).run tb.P w=.ok v' w)/\VR ι v v':=by
 unfold ef at h;obtain⟨zero,hz,h0⟩:=R.aF h;clear h;have hzr:=DZ ok hz;obtain⟨_,_,_,hzv⟩:=Br hz;have hzc:=(hzv ι).cells;split at h0
 .rename_i fs hd;obtain⟨places,hpl,h1⟩:=R.aF h0;clear h0;split at h1
  .rename_i cells hf;simp only[av]at h1;subst h1;obtain⟨r',e,hr⟩:=Fx (pl':=λ i=>places.toArray[i]?) (λ i x hx=>by simpa using hx) hf hzc hp;refine⟨.agg r',λ w=>?_,.agg hr⟩;have hm:(fs.mapM λ f=>do pure (f.offset,<-sizeOf f.type):Sem (Array (Nat×Nat))).run tb.P w=.ok places.toArray w:=by
    rw[Array.mapM_eq_mapM_toList];simp only[Sem.run_map,Rp ok hpl w,aQ]
   simp only[Instr.build,aP,hzr,aQ,bK ok hd,hm];simp only[e,aW]
  .cases h1
 .rename_i len elem hd;obtain⟨n,e1,h1⟩:=R.aF h0;clear h0;split at h1
  .rename_i cells hf;simp only[av]at h1;subst h1;obtain⟨r',e,hr⟩:=Fx (λ i x hx=>hx) hf hzc hp;refine⟨.agg r',λ w=>?_,.agg hr⟩;simp only[Instr.build,aP,hzr,aQ,bK ok hd,jB ok e1];simp only[e,aW]
  .cases h1
 .cases h0
end
section
variable {tb:aO}(ok:dP tb){ι:a8}
include ok in
def Yl {s d:aj} {x x' v:O} (h:pB tb s d x=.ok v) (hx:VR ι x x'):∃v',(∀w:aG,(convert s d x').run tb.P w=.ok v' w)/\VR ι v v':=by
 unfold pB at h;split at h
 .rename_i ds k k' n hs hd;cases hx;simp only[av]at h;subst h;refine⟨_,λ w=>?_,.int _ _⟩;simp only[convert,aP,bK ok hs,bK ok hd,aQ,qt];rfl
 .rename_i ds s hs hd;cases hx;simp only[av]at h;subst h;refine⟨_,λ w=>?_,.string _⟩;simp only[convert,aP,bK ok hs,bK ok hd,aQ];rfl
 .cases h
include ok in
def qbA {t:aj} {ts:Array aj} {x x' v:O} {args:Array O} {rt:aj} (h:C9 tb t x=.ok v) (hx:VR ι x x') (ht:ts[0]?=U t) (ha:args[0]?=U x'):
 ∃v',(∀w:aG,(Builtin.len_ ts rt args).run tb.P w=.ok v' w)/\VR ι v v':=by
 unfold C9 at h;split at h
 .rename_i s hd;cases hx;simp only[av]at h;subst h;refine⟨_,λ w=>?_,.int _ _⟩;simp only[Builtin.len_,ht,ha,aP,bK ok hd,aQ,size_data];rfl
 .rename_i n e hd;simp only[av]at h;subst h;refine⟨_,λ w=>?_,.int _ _⟩;simp only[Builtin.len_,ht,ha,aP,bK ok hd,aQ];cases x'<;>rfl
 .rename_i e a n c hd;simp only[av]at h;subst h;cases hx<;>refine⟨_,λ w=>?_,.int _ _⟩<;>simp only[Builtin.len_,ht,ha,aP,bK ok hd,aQ]<;>rfl
 .rename_i e hd;simp only[av]at h;subst h;cases hx;refine⟨_,λ w=>?_,.int _ _⟩;simp only[Builtin.len_,ht,ha,aP,bK ok hd,aQ];rfl
 .cases h
include ok in
def Ya {t:aj} {ts:Array aj} {x x' v:O} {args:Array O} {rt:aj} (h:IK tb t x=.ok v) (hx:VR ι x x') (ht:ts[0]?=U t) (ha:args[0]?=U x'):
 ∃v',(∀w:aG,(Builtin.cap_ ts rt args).run tb.P w=.ok v' w)/\VR ι v v':=by
 unfold IK at h;split at h
 .rename_i n e hd;simp only[av]at h;subst h;refine⟨_,λ w=>?_,.int _ _⟩;simp only[Builtin.cap_,ht,ha,aP,bK ok hd,aQ];cases x'<;>rfl
 .rename_i e a n c hd;cases hx with
  |slN=>
   have h':=h;cases h';refine⟨.int .i64 (.ofNat 0),λ w=>?_,.int _ _⟩;simp only[Builtin.cap_,ht,ha,aP,bK ok hd,aQ];rfl
  |sl hl hk=>
   rw[hk]at h;simp only[aI,av]at h;subst h;refine⟨_,λ w=>?_,.int _ _⟩;simp only[Builtin.cap_,ht,ha,aP,bK ok hd,aQ];rfl
  |slX hl hk hc hsz ho hb hlen=>
   rw[hk]at h;simp only[ba,av]at h;subst h;refine⟨_,λ w=>?_,.least hc hb⟩;simp only[Builtin.cap_,ht,ha,aP,bK ok hd,aQ];rfl
 .cases h
variable {x' y:O}
def qb9{x y' v:O}(h:xz x y=.ok v)(hx:VR ι x x')(hy:VR ι y y'):∃v',(∀(P:cI) (w:aG),(Builtin.min2 x' y').run P w=.ok v' w)/\VR ι v v':=by
 unfold xz at h;split at h
 .cases hx;cases hy;rename_i k a k' b;cases hk:iA k k' with
  |false=>rw[hk]at h;cases h
  |true=>
   rw[hk]at h;simp only[aI,av]at h;subst h;refine⟨_,λ P w=>?_,.int _ _⟩;simp only[Builtin.min2,aW,AD];by_cases hc:b<a<;>simp[hc]
 .cases h
def qb0{x y' v:O}(h:xx x y=.ok v)(hx:VR ι x x')(hy:VR ι y y'):∃v',(∀(P:cI) (w:aG),(Builtin.max2 x' y').run P w=.ok v' w)/\VR ι v v':=by
 unfold xx at h;split at h
 .cases hx;cases hy;rename_i k a k' b;cases hk:iA k k' with
  |false=>rw[hk]at h;cases h
  |true=>
   rw[hk]at h;simp only[aI,av]at h;subst h;refine⟨_,λ P w=>?_,.int _ _⟩;simp only[Builtin.max2,aW,AD];by_cases hc:a<b<;>simp[hc]
 .cases h
theorem Jw{f:O->O->R O}{g:O->O->Sem O}
 (hf:∀{x x' y y' v:O},f x y=.ok v->VR ι x x'->VR ι y y'->∃v',(∀(P:cI) (w:aG),(g x' y').run P w=.ok v' w)/\VR ι v v'):
 ∀{l l':List O} {x x' v:O},nP f x l=.ok v->VR ι x x'->bn ι l l'->∃v',(∀(P:cI) (w:aG),(l'.foldlM g x').run P w=.ok v' w)/\VR ι v v'
 | [],_,x,x',v,h,hx,.nil=>by simp only[nP,av]at h;subst h;exact⟨x',λ _ _=>rfl,hx⟩
 |y::l,_,x,x',v,h,hx,.cons hy ht=>by
  unfold nP at h;obtain⟨z,h1,h2⟩:=R.aF h;obtain⟨z',e1,r1⟩:=hf h1 hx hy;obtain⟨v',e2,r2⟩:=Jw hf h2 r1 ht;refine⟨v',λ P w=>?_,r2⟩;simp only[List.foldlM_cons,aP,e1,aQ,e2]
variable {l:List O}
def bn.cons_inv{v:O}{l':List O}(h:bn ι (v::l) l'):∃v' t',l'=v'::t'/\VR ι v v'/\bn ι l t':=by
 cases h with
 |cons h ht=>exact⟨_,_,rfl,h,ht⟩
include ok in
def WT {b:Builtin} {ts:Array aj} {cs:Array Bool} {rt:aj} {args:List O} {args':Array O} {v:O} (h:cQ tb b ts.toList args=.ok v) (ha:bn ι args args'.toList):
 ∃v',(∀w:aG,(builtin b ts rt cs args').run tb.P w=.ok (.value v') w)/\VR ι v v':=by
 have wrap:∀{s:Sem O},(∃v',(∀w:aG,s.run tb.P w=.ok v' w)/\VR ι v v')->∃v',(∀w:aG,(do pure (Next.value (<-s)):Sem Next).run tb.P w=.ok (.value v') w)/\VR ι v v':=by
  rintro s ⟨v',e,r⟩;exact⟨v',λ w=>by simp only[aP,e,aQ,aW],r⟩
 have first:∀{t:aj} {l:List aj},ts.toList=t::l->ts[0]?=U t:=by
  intro t l e;rw[<-fW,e];rfl
 have firstA:∀{x:O} {l:List O},args'.toList=x::l->args'[0]?=U x:=by
  intro t l e;rw[<-fW,e];rfl
 unfold cQ at h;split at h
 .rename_i t l x xs hts;obtain⟨x',t',e,hx,_⟩:=ha.cons_inv;exact wrap (qbA ok h hx (first hts) (firstA e))
 .rename_i t l x xs hts;obtain⟨x',t',e,hx,_⟩:=ha.cons_inv;exact wrap (Ya ok h hx (first hts) (firstA e))
 .obtain⟨x',t',e,hx,ht⟩:=ha.cons_inv;obtain⟨v',e2,r⟩:=Jw (λ h a b=>qb9 h a b) h hx ht;exact wrap ⟨v',λ w=>by simp only[Builtin.min_,e];exact e2 _ w,r⟩
 .obtain⟨x',t',e,hx,ht⟩:=ha.cons_inv;obtain⟨v',e2,r⟩:=Jw (λ h a b=>qb0 h a b) h hx ht;exact wrap ⟨v',λ w=>by simp only[Builtin.max_,e];exact e2 _ w,r⟩
 .rename_i a len c;obtain⟨x',t',e,hx,ht⟩:=ha.cons_inv;cases ht;have e':args'= #[x']:=by apply m8;exact e
  cases hc:aM 0 (bH c)with
  |false=>rw[hc]at h;cases h
  |true=>
   rw[hc]at h;simp only[aI,av]at h;subst h;have h0:=jK hc;refine wrap ?_;cases hx with
   |sl hl hk=>
    refine⟨_,λ w=>?_,.ptr hl⟩;subst e';show Sem.run tb.P (if bH c≠0 then pure (Value.pointer (U _))else _) w=_;rw[aC (by omega:bH c≠0)];rfl
   |slX hl hk hcc hsz ho hb hlen=>
    rename_i cap' lc;refine⟨_,λ w=>?_,.ptr hl⟩;subst e';show Sem.run tb.P (if cap'≠0 then pure (Value.pointer (U _))else _) w=_;rw[aC (by omega:cap'≠0),ho (by omega)];rfl
 .obtain⟨x',t',e,hx,ht⟩:=ha.cons_inv;cases ht;have e':args'= #[x']:=by apply m8;exact e
  simp only[av]at h;subst h;refine wrap ?_;cases hx;subst e';exact⟨_,λ w=>rfl,.ptrN⟩
 .cases h
include ok in
def Vr {x x' v:O} {xt t:aj} {c:Bool} (h:Ci tb x t c=.ok v) (hx:VR ι x x'):
 ∃v',(∀w:aG,(Instr.typeAssert x' xt t c).run tb.P w=.ok v' w)/\VR ι v v':=by
 have fails:∀{a b:Option aj} {m:String},(bif c then(cX tb t).bind λ z=>.ok (.tuple ⟨[z,.bool af]⟩)else .no 99:R O)=.ok v->
  ∃v',(∀w:aG,(do if c then pure (.tuple #[<-zeroValue t,.bool af])else runtimePanic (.typeAssertion a b t m):Sem O).run tb.P w=.ok v' w)/\VR ι v v':=by
  intro a b m h;cases c with
  |false=>cases h
  |true=>
   simp only[aI]at h;obtain⟨z,hz,h1⟩:=R.aF h;simp only[av]at h1;subst h1;obtain⟨_,_,_,hzv⟩:=Br hz;refine⟨.tuple ⟨[z,.bool af]⟩,λ w=>?_,.tuple (.cons (hzv ι) (.cons (.bool _) .nil))⟩;simp only[bR,aP,DZ ok hz,aQ,aW]
 have holds:∀{y y':O},VR ι y y'->(R.ok (bif c then Value.tuple ⟨[y,.bool aa]⟩else y))=.ok v->
  VR ι v (if c then .tuple #[y',.bool aa]else y'):=by
  intro y y' hy h;simp only[av]at h;subst h;cases c with
  |false=>exact hy
  |true=>exact .tuple (.cons hy (.cons (.bool _) .nil))
 unfold Ci at h;split at h
 .rename_i ms hd;cases hx;obtain⟨v',e,r⟩:=fails h;refine⟨v',λ w=>?_,r⟩;simp only[Instr.typeAssert,aP,bK ok hd,aQ];exact e w
 .rename_i want u y hd;cases hx with
  |iface hy=>
   split at h
   .rename_i i hi;split at h
    .rename_i hm;refine⟨_,λ w=>?_,holds (.iface hy) h⟩;simp only[Instr.typeAssert,aP,bK ok hd,sK ok hi,aQ,hm];rfl
    .rename_i m hm;obtain⟨v',e,r⟩:=fails h;refine⟨v',λ w=>?_,r⟩;simp only[Instr.typeAssert,aP,bK ok hd,sK ok hi,aQ,hm];exact e w
   .cases h
 .rename_i d hne hd;cases hx;obtain⟨v',e,r⟩:=fails h;refine⟨v',λ w=>?_,r⟩;simp only[Instr.typeAssert,aP,bK ok hd,aQ];cases d<;>first|exact e w|exact aZ rfl (hne _)
 .rename_i d u y hne hd;cases hx with
  |iface hy=>
   cases hb:aL u t with
   |true=>
    obtain rfl:=beq_true hb;rw[hb]at h;simp only[aI]at h;refine⟨_,λ w=>?_,holds hy h⟩;simp only[Instr.typeAssert,aP,bK ok hd,aQ];cases d<;>first|(simp only[bR];rfl)|exact aZ rfl (hne _)
   |false=>
    have hb':=beq_false hb;rw[hb]at h;simp only[ba]at h;obtain⟨v',e,r⟩:=fails h;refine⟨v',λ w=>?_,r⟩;simp only[Instr.typeAssert,aP,bK ok hd,aQ];cases d<;>first|(simp only[aq hb'];exact e w)|exact aZ rfl (hne _)
 .cases h
 .cases h
def qcx{fn:Fn}(h:∀l,fn=.yield l->False):Qo fn:=by
 cases fn<;>first|trivial|exact(h _ rfl).elim
include ok in
def Rl {n:Nat} {τ:T O} {a:Act} {o:Oper} {v:O} (h:gT tb τ o.op=.ok v) (ht:TR ι n τ a.tmps):
 ∃v',(∀w:aG,(execOp a.eval o).run tb.P w=.ok (.value v') w)/\VR ι v v':=by
 have wrap:∀{s:Sem O},(∃v',(∀w:aG,s.run tb.P w=.ok v' w)/\VR ι v v')->∃v',(∀w:aG,(do pure (Next.value (<-s)):Sem Next).run tb.P w=.ok (.value v') w)/\VR ι v v':=by
  rintro s ⟨v',e,r⟩;exact⟨v',λ w=>by simp only[aP,e,aQ,aW],r⟩
 unfold gT at h;split at h<;>rename_i hop<;>simp only[execOp,hop]
 .exact⟨_,λ w=>rfl,dg h ht⟩
 .exact⟨_,λ w=>rfl,dg h ht⟩
 .rename_i c x y;obtain⟨cv,hc,h1⟩:=R.aF h;have hcr:=dg hc ht;split at h1
  .generalize a.eval c=cv' at hcr⊢;cases hcr;refine⟨a.eval x,λ w=>?_,dg h1 ht⟩;simp only[aP,asBool,aW,aQ,bR]
  .generalize a.eval c=cv' at hcr⊢;cases hcr;refine⟨a.eval y,λ w=>?_,dg h1 ht⟩;simp only[aP,asBool,aW,aQ,ed,bO]
  .cases h1
 .rename_i ty ps;obtain⟨vs,h1,h2⟩:=R.aF h;have:=Ja h1 ht;refine wrap ?_;obtain⟨v',e,r⟩:=WQ ok h2 this;refine⟨v',λ w=>?_,r⟩;rw[<-e w];congr 2;apply m8;simp
 .obtain⟨x,h1,h2⟩:=R.aF h;obtain⟨v',e,r⟩:=qiI h2 (dg h1 ht);exact wrap ⟨v',λ w=>e _ w,r⟩
 .obtain⟨x,h1,h2⟩:=R.aF h;have hx:=dg h1 ht;split at h2
  .cases h2
  .rename_i d hne hd;simp only[av]at h2;subst h2;refine wrap ⟨_,λ w=>?_,.iface hx⟩;simp only[Instr.makeInterface,aP,bK ok hd,aQ];cases d<;>first|rfl|exact aZ rfl (hne _)
  .cases h2
 .obtain⟨x,h1,h2⟩:=R.aF h;obtain⟨y,h3,h4⟩:=R.aF h2;have hx:=yV h1 ht;have hy:=yV h3 ht;split at h4
  .cases h4
  .rename_i hfn;simp only[av]at h4;subst h4;refine wrap ⟨_,λ w=>rfl,.func ?_ (by simpa using hx) (by simpa using hy)⟩;exact qcx hfn
 .obtain⟨x,h1,h2⟩:=R.aF h;exact wrap (ZN ok h2 (dg h1 ht))
 .obtain⟨x,h1,h2⟩:=R.aF h;exact wrap (ZO ok h2 (dg h1 ht))
 .obtain⟨x,h1,h2⟩:=R.aF h;obtain⟨y,h3,h4⟩:=R.aF h2;exact wrap (Pj ok h4 (dg h1 ht) (dg h3 ht))
 .obtain⟨x,h1,h2⟩:=R.aF h;obtain⟨y,h3,h4⟩:=R.aF h2;exact wrap (qaK ok h4 (dg h1 ht) (dg h3 ht))
 .rename_i xo i;obtain⟨x,h1,h2⟩:=R.aF h;have hx:=dg h1 ht;split at h2
  .split at h2
   .rename_i vs u hu;simp only[av]at h2;subst h2;generalize a.eval xo=xv' at hx⊢;cases hx with
    |tuple hvs=>
     rename_i vs';obtain⟨u',e2,r⟩:=hvs.get _ _ hu;refine wrap ⟨u',λ w=>?_,r⟩;have:vs'[i]?=U u':=by rw[<-fW];exact e2
     simp only[Instr.extract,this,aW]
   .cases h2
  .cases h2
 .obtain⟨x,h1,h2⟩:=R.aF h;obtain⟨lo,h3,h4⟩:=R.aF h2;obtain⟨hi,h5,h6⟩:=R.aF h4;obtain⟨mx,h7,h8⟩:=R.aF h6;exact wrap (qhv ok h8 (dg h1 ht) (Fb h3 ht) (Fb h5 ht) (Fb h7 ht))
 .obtain⟨x,h1,h2⟩:=R.aF h;exact wrap (Vr ok h2 (dg h1 ht))
 .obtain⟨x,h1,h2⟩:=R.aF h;have hx:=dg h1 ht;rename_i xo;generalize a.eval xo=xv' at hx⊢;have hx0:=hx;split at h2<;>simp only[av,reduceCtorEq]at h2<;>subst h2<;>cases hx<;>exact⟨_,λ w=>rfl,hx0⟩
 .rename_i op ty x y yt;obtain⟨xv,h1,h2⟩:=R.aF h;obtain⟨yv,h3,h4⟩:=R.aF h2;obtain⟨v',e,r⟩:=Wd ok h4 (dg h1 ht) (dg h3 ht);refine wrap ⟨v',λ w=>?_,r⟩;simp only[aP,Y5 h4 (dg h1 ht) (dg h3 ht),aQ,e]
 .obtain⟨x,h1,h2⟩:=R.aF h;exact wrap (Yl ok h2 (dg h1 ht))
 .rename_i c;split at h
  .rename_i b hb;obtain⟨args,h1,h2⟩:=R.aF h;have ha:=yV h1 ht;obtain⟨v',e,r⟩:=WT ok (args':=c.args.map a.eval) h2 (by simpa using ha);refine⟨v',λ w=>?_,r⟩;simp only[resolve,hb,aP,aW,aQ,invoke];exact e w
  .cases h
 .cases h
end
section
variable {tb:aO}(ok:dP tb){ι:a8}{A:Mem}{w:aG}
variable {i:Nat}
def Nd{t:aj}{x:Kd}{fz:Nat}{c:T O}{l:Loc}(h:OR ι (.cells t x fz c) l o')(hw:w.heap[l.blk]?=U o'){v:O}(hv:c.get i=U v):
 ∃v',w.cell? ⟨l.blk,i+l.sh,Y⟩=U v'/\VR ι v v':=by
 obtain⟨cs,fr,rfl,h1,h2,h3⟩:=h;obtain⟨v',e,r⟩:=h2 i v hv;exact⟨v',by simp only[World.cell?,hw,yl,ed,bO,e],r⟩
def JZ{a:Addr}{v:O}(h:w.cell? a=U v)(P:cI)(m:Mode):(load a m).run P w=.ok v w:=by
 rw[run_load,h]
theorem PX(P:cI)(a:Addr):∀(n i:Nat) (acc:Array O) (vs:List O),Z vs=n->(∀j v,vs[j]?=U v->w.cell? (a.add (i+j))=U v)->
 (loadCellsFrom a i n acc).run P w=.ok (acc++vs.toArray) w
 |0,i,acc,vs,hl,_=>by
  cases vs with
  |nil=>simp[loadCellsFrom]
  |cons _ _=>simp at hl
 |n+1,i,acc,vs,hl,h=>by
  cases vs with
  |nil=>simp at hl
  |cons v vs=>
   have h0:w.cell? (a.add i)=U v:=h 0 v rfl;simp only[loadCellsFrom,aP,JZ h0,aQ];rw[PX P a n (i+1) (acc.push v) vs (by simpa using hl) λ j u hu=>by rw[yf,rG];exact h (j+1) u (by simpa using hu)];congr 1;apply m8;simp
def qbF(P:cI)(a:Addr)(n:Nat)(vs:List O)(hl:Z vs=n)(h:∀j v,vs[j]?=U v->w.cell? (a.add j)=U v):(loadCells a n).run P w=.ok vs.toArray w:=by
 unfold loadCells;rw[PX P a n 0 #[] vs hl λ j v hv=>by rw[dO];exact h j v hv]
 simp
variable {vs:List O}
def OT{t:aj}{x:Kd}{fz:Nat}{c:T O}{l:Loc}(h:OR ι (.cells t x fz c) l o')(hw:w.heap[l.blk]?=U o')(hv:c.iX n i=U vs):
 ∃vs',bn ι vs vs'/\Z vs'=n/\∀P (w2:aG),w2.heap=w.heap->(loadCells ⟨l.blk,i+l.sh,Y⟩ n).run P w2=.ok vs'.toArray w2:=by
 obtain⟨hlen,hget⟩:=T.CX c n i vs hv;have key:∀j,j<n->∃v',w.cell? ⟨l.blk,i+j+l.sh,Y⟩=U v'/\(∀v,vs[j]?=U v->VR ι v v'):=by
  intro j hj;have hj':j<Z vs:=by omega
  have e:=hget j hj;rw[aV hj']at e;obtain⟨v',e1,r⟩:=Nd h hw e;exact⟨v',e1,λ v hv=>by rw[aV hj']at hv;cases hv;exact r⟩
 let f:Nat->O:=λ j=>(w.cell? ⟨l.blk,i+j+l.sh,Y⟩).getD undef
 refine⟨(jE n).map f,bn.De (by simp[hlen]) λ j v v' hv hv'=>?_,by simp,λ P w2 hw2=>qbF P _ n _ (by simp) λ j v hv=>?_⟩
 .have hj:j<n:=by
   rcases d_ j n with h1|h1
   .exact h1
   .rw[lW (by simp;omega)]at hv';cases hv'
  obtain⟨u,e1,r⟩:=key j hj;rw[da,zN hj]at hv';simp only[fZ,eM]at hv';have:f j=u:=by simp only[f,e1,td]
  rw[<-hv',this];exact r v hv
 .have hj:j<n:=by
   rcases d_ j n with h1|h1
   .exact h1
   .rw[lW (by simp;omega)]at hv;cases hv
  obtain⟨u,e1,r⟩:=key j hj;rw[da,zN hj]at hv;simp only[fZ,eM]at hv;have:f j=u:=by simp only[f,e1,td]
  rw[om,<-hv,this,yf];have hc:∀a,w2.cell? a=w.cell? a:=λ a=>by simp only[World.cell?,hw2]
  rw[hc];exact e1
include ok in
def C_ (hr:Rel ι A w) {t:aj} {x x' v:O} (h:ax tb A.get t x=.ok v) (hx:VR ι x x'):
 ∃v',(Instr.loadAt t x').run tb.P w=.ok v' w/\VR ι v v':=by
 unfold ax at h;split at h
 .rename_i a;cases hx with
  |ptr hl=>
   rename_i b o lc;simp only at h;split at h
   .rename_i t' xk fz c d _ hg hd;obtain⟨o',hw,ho⟩:=hr.obs _ _ _ hg rfl hl;cases ha:cW d with
    |true=>
     rw[ha]at h;simp only[aI]at h;obtain⟨n,e1,h1⟩:=R.aF h;split at h1
     .rename_i vs hvs;simp only[av]at h1;subst h1;obtain⟨vs',r,_,run⟩:=OT ho hw hvs;refine⟨.agg vs'.toArray,?_,.agg (by simpa using r)⟩;simp only[Instr.loadAt,Instr.sureAddr,loadVar,aP,aW,aQ,FK ok hd,ha,bR,jB ok e1,run _ _ rfl]
     .cases h1
    |false=>
     rw[ha]at h;simp only[ba]at h;split at h
     .rename_i u hu;simp only[av]at h;subst h;obtain⟨v',e,r⟩:=Nd ho hw hu;refine⟨v',?_,r⟩;simp only[Instr.loadAt,Instr.sureAddr,loadVar,aP,aW,aQ,FK ok hd,ha,ed,bO,JZ e]
     .cases h
   .cases h
 .cases h
variable {size cap:Nat}{x':O}
def I4(hr:Rel ι A w){len:Nat}{a:Option Addr}(h:gO A.get size n a=.ok vs)(hx:VR ι (.slice a len cap) x')(hn:n<=len):
 ∃a' cap' vs',x'=.slice a' len cap'/\bn ι vs vs'/\(∀b,a'=U b->∀P (w2:aG),w2.heap=w.heap->(loadCells b (n*size)).run P w2=.ok vs'.toArray w2)/\(a'=Y->vs'=[]/\a=Y)/\
  (Z vs=n*size\/a=Y):=by
 have fin:∀{b o o':Nat} {lc:Loc},ι b=U lc->(0<n->o'=o+lc.sh)->gO A.get size n (U ⟨b,o,Y⟩)=.ok vs->
  ∃vs',bn ι vs vs'/\(∀P (w2:aG),w2.heap=w.heap->(loadCells ⟨lc.blk,o',Y⟩ (n*size)).run P w2=.ok vs'.toArray w2)/\Z vs=n*size:=by
  intro b o o' lc hl ho h;unfold gO at h;simp only at h;cases hb:aL (n*size) 0 with
  |true=>
   have h0:=beq_true hb;rw[hb]at h;simp only[aI,av]at h;subst h;exact⟨[],.nil,(λ P w2 _=>by rw[h0];rfl),by simp[h0]⟩
  |false=>
   have h0:=beq_false hb;rw[hb]at h;simp only[ba]at h;split at h
   .rename_i t xk fz c _ hg;split at h
    .rename_i l hlv;simp only[av]at h;subst h;obtain⟨o1,hw,hor⟩:=hr.obs _ _ _ hg rfl hl;obtain⟨vs',r,hlen,run⟩:=OT hor hw hlv;have hn0:0<n:=by
      rcases BH n with h1|h1
      .rw[h1,oB]at h0;exact aZ rfl h0
      .exact h1
     rw[ho hn0];exact⟨vs',r,run,(T.CX c _ _ _ hlv).1⟩
    .cases h
   .cases h
 cases hx with
 |slN=>
  simp only[gO,av]at h;subst h;exact⟨Y,0,[],rfl,.nil,(λ b hb=>by cases hb),λ _=>⟨rfl,rfl⟩,.inr rfl⟩
 |sl hl hk=>
  obtain⟨vs',h1,h3,h4⟩:=fin hl (λ _=>rfl) h;exact⟨_,_,vs',rfl,h1,(λ b hb P w2 hw2=>by cases hb;exact h3 P w2 hw2),(λ h=>by cases h),.inl h4⟩
 |slX hl hk hc hsz ho hb hlen=>
  obtain⟨vs',h1,h3,h4⟩:=fin hl (λ h0=>ho (by omega)) h;exact⟨_,_,vs',rfl,h1,(λ b hb P w2 hw2=>by cases hb;exact h3 P w2 hw2),(λ h=>by cases h),.inl h4⟩
theorem MT(P:cI){why:String}:∀{vs vs':List O} {l:List UInt8},bytesOf vs=.ok l->bn ι vs vs'->∀(s:ByteArray),
 (forIn vs' s λ c s=>(match c with
  |Value.int IntKind.u8 n=>pure (ForInStep.yield (s.push (lZ n.toNat)))
  |_=>do
   stuck why
   pure (ForInStep.yield s):Sem (ForInStep ByteArray))).run P w=.ok ⟨⟨s.data.toList++l⟩⟩ w
 | [],_,l,h,.nil,s=>by
  simp only[bytesOf,av]at h;subst h;simp
 |v::vs,_,l,h,.cons hv ht,s=>by
  unfold bytesOf at h;split at h
  .rename_i heq;cases heq
  .rename_i n vs2 heq;simp only[ff]at heq;obtain⟨rfl,rfl⟩:=heq;obtain⟨l',h1,h2⟩:=R.aF h;simp only[av]at h2;subst h2;cases hv;rw[List.forIn_cons];simp only[aP,aW,aQ];rw[MT P h1 ht];congr 1;apply ByteArray.ext;apply m8;simp[ByteArray.data_push]
  .cases h
def qir(hr:Rel ι A w){x v:O}(h:zt A.get x=.ok v)(hx:VR ι x x'):∀P,∃v',(Conv.bytesToString x').run P w=.ok v' w/\VR ι v v':=by
 intro P;unfold zt at h;split at h
 .simp only[av]at h;subst h;cases hx;exact⟨.string .empty,rfl,.string _⟩
 .rename_i a len cap;obtain⟨vs,h1,h2⟩:=R.aF h;obtain⟨l,h3,h4⟩:=R.aF h2;simp only[av]at h4;subst h4;obtain⟨a',cap',vs',e,r,run,hnone,_⟩:=I4 hr h1 hx (aJ _);subst e;cases a' with
  |none=>have:=(hnone rfl).2;cases this
  |some b=>
   refine⟨ag l,?_,.string _⟩;have hrun:=run b rfl P w rfl;rw[nf]at hrun;simp only[Conv.bytesToString,aP,hrun,aQ];rw[<-Array.forIn_toList];refine(cV (λ r=>Result.andThen r (λ a w'=>Sem.run P (pure (Value.string a)) w')) (MT P h3 r .empty)).trans ?_;rfl
 .cases h
def bytes_beq(x y:ByteArray):(x==y)=(x.data.toList==y.data.toList):=by
 cases x;cases y;rename_i a b;have:((⟨a⟩:ByteArray)==⟨b⟩)=(a==b):=rfl;rw[this];cases a;cases b;simp
def PE{k k' e e':O}{b:Bool}(h:xr k e=U b)(hk:VR ι k k')(he:VR ι e e'):∀d,((∃x,d=TypeDesc.int x)/\(∃x y,k=.int x y)\/d=.string/\∃x,k=.string x)->
 Instr.sameNow d k' e'=U b:=by
 intro d hd;unfold xr at h;split at h
 .cases hk;cases he;rename_i kk x kk' y;cases hkk:iA kk kk' with
  |false=>rw[hkk]at h;cases h
  |true=>
   rw[hkk]at h;simp only[aI,eM]at h;subst h;obtain rfl:=C6 hkk;rcases hd with⟨⟨_,rfl⟩,_⟩|⟨rfl,_,h⟩
   .simp only[Instr.sameNow,bR,xj]
   .cases h
 .cases hk;cases he;simp only[eM]at h;subst h;rename_i x y;rcases hd with⟨_,_,_,h⟩|⟨rfl,_,h⟩
  .cases h
  .simp only[Instr.sameNow,pj,bytes_beq]
 .cases h
theorem y3{k k':O}(hk:VR ι k k'){d:TypeDesc}(hd:(∃x,d=TypeDesc.int x)/\(∃x y,k=.int x y)\/d=.string/\∃x,k=.string x):
 ∀{es es':List MapEntry} {i:Nat} {r:Option (Nat×O)},findF k es i=U r->iT ι es es'->
 (r=Y/\Instr.findNow d k' es' i=U Y)\/∃j v v',r=U (j,v)/\Instr.findNow d k' es' i=U (U (j,v'))/\VR ι v v'/\i<=j/\∃e',es'[j-i]?=U e'/\∃e,es[j-i]?=U e/\xr k e.key=U aa
 | [],_,i,r,h,.nil=>by
  simp only[findF,eM]at h;subst h;exact .inl ⟨rfl,rfl⟩
 |e::es,_,i,r,h,.cons hkk hb hv ht=>by
  rename_i e' es';unfold findF at h;split at h
  .rename_i hq;simp only[eM]at h;subst h;refine .inr ⟨i,e.val,e'.val,rfl,?_,hv,aJ _,e',by simp,e,by simp,hq⟩;unfold Instr.findNow;rw[PE hq hk hkk d hd]
  .rename_i hq;have hs:=PE hq hk hkk d hd;rcases y3 hk hd h ht with⟨h1,h2⟩|⟨j,v,v',h1,h2,h3,h4,x',h5,x,h6,h7⟩
   .refine .inl ⟨h1,?_⟩;unfold Instr.findNow;rw[hs];exact h2
   .have hj:j-i=(j-(i+1))+1:=by simp only[El]at h4;omega
    refine .inr ⟨j,v,v',h1,?_,h3,by simp only[El]at h4;omega,x',by rw[hj];simpa using h5,x,by rw[hj];simpa using h6,h7⟩;unfold Instr.findNow;rw[hs];exact h2
  .cases h
def FN{t:aj}{k:O}(h:e_ tb t k=aa):∃d,tb.aB t=U d/\((∃x,d=TypeDesc.int x)/\(∃x y,k=.int x y)\/d=.string/\∃x,k=.string x):=by
 unfold e_ at h;split at h
 .rename_i x _ _ hd;exact⟨_,hd,.inl ⟨⟨_,rfl⟩,_,_,rfl⟩⟩
 .rename_i x hd;exact⟨_,hd,.inr ⟨rfl,_,rfl⟩⟩
 .cases h
include ok in
def EX {t:aj} {k k':O} {d:TypeDesc} (hd:tb.aB t=U d) (hk:(∃x,d=TypeDesc.int x)/\(∃x y,k=.int x y)\/d=.string/\∃x,k=.string x) (hv:VR ι k k') (e:Bool) (w:aG):
 (Instr.checkKey e 10000 t k').run tb.P w=.ok () w:=by
 rw[show(10000:Nat)=9999+1 from rfl,Instr.checkKey];simp only[aP,bK ok hd,aQ];rcases hk with⟨⟨_,rfl⟩,_,_,rfl⟩|⟨rfl,_,rfl⟩<;>cases hv<;>rfl
include ok in
def Aw {t:aj} {k':O} {d:TypeDesc} (hd:tb.aB t=U d) {es':List MapEntry} {r:Option (Nat×O)} (h:Instr.findNow d k' es' 0=U r) (w:aG):
 (Instr.findKey t k' es').run tb.P w=.ok r w:=by
 simp only[Instr.findKey,aP,bK ok hd,aQ,h,aW]
variable {r:Nat}
def lr{o:Obj}(h:w.heap[r]?=U o)(hc:∀c e f,o≠.cells c e f)(P:cI):(getObj r).run P w=.ok o w:=by
 simp only[getObj,Sem.run,h]
variable {es:List MapEntry}
def NP(hr:Rel ι A w){x:O}(h:uK A.get x=.ok es)(hx:VR ι x x'):
 ∃es':Array MapEntry,iT ι es es'.toList/\((x'=.map Y/\es'= #[])\/∃r clock,x'=.map (U r)/\w.heap[r]?=U (.map es' clock)):=by
 unfold uK at h;split at h
 .simp only[av]at h;subst h;cases hx;exact⟨#[],.nil,.inl ⟨rfl,rfl⟩⟩
 .rename_i b;split at h
  .rename_i es0 clock hg;simp only[av]at h;subst h;cases hx with
   |map hl=>
    obtain⟨o',hw,_,es',rfl,he⟩:=hr.obs _ _ _ hg rfl hl;exact⟨es',he,.inr ⟨_,clock,rfl,hw⟩⟩
  .cases h
 .cases h
include ok in
def qbL (hr:Rel ι A w) {t:aj} {x x' k k' v:O} {c:Bool} (h:oQ tb A.get t x k c=.ok v) (hx:VR ι x x') (hk:VR ι k k'):
 ∃v',(Instr.lookup t x' k' c).run tb.P w=.ok v' w/\VR ι v v':=by
 unfold oQ at h;split at h
 .rename_i key elem hd;cases hko:e_ tb key k with
  |false=>rw[hko]at h;cases h
  |true=>
   rw[hko]at h;simp only[aI]at h;obtain⟨d,hkd,gi⟩:=FN hko;obtain⟨es,h1,h2⟩:=R.aF h;obtain⟨es',he,hes⟩:=NP hr h1 hx;have hck:=EX ok hkd gi hk es'.isEmpty w;have fin:∀{z z':O} {b:Bool},VR ι z z'->VR ι (bif c then Value.tuple ⟨[z,.bool b]⟩else z) (if c then .tuple #[z',.bool b]else z'):=by
    intro z z' b hz;cases c with
    |false=>exact hz
    |true=>exact .tuple (.cons hz (.cons (.bool _) .nil))
   have run:∀{r:Option (Nat×O)},Instr.findNow d k' es'.toList 0=U r->(Instr.lookup t x' k' c).run tb.P w=
    ((match r with
     |some (_,v)=>pure (v,aa)
     |none=>do pure (<-zeroValue elem,af):Sem (O×Bool)).run tb.P w).andThen λ p w=>.ok (if c then .tuple #[p.1,.bool p.2]else p.1) w:=by
    intro r hr;have fin:∀w:aG,Sem.run tb.P (match r with
     |some (_,v)=>do
      let x<-pure (v,aa)
      pure (if c=aa then Value.tuple #[x.1,Value.bool x.2]else x.1)
     |none=>do
      let z<-zeroValue elem;let x<-pure (z,af)
      pure (if c=aa then Value.tuple #[x.1,Value.bool x.2]else x.1)) w=
     ((match(generalizing:=false) r with
     |some (_,v)=>pure (v,aa)
     |none=>do pure (<-zeroValue elem,af):Sem (O×Bool)).run tb.P w).andThen λ p w=>.ok (if c then .tuple #[p.1,.bool p.2]else p.1) w:=by
     intro w;cases r with
     |none=>
      simp only[aP,aW,aQ];cases (zeroValue elem).run tb.P w<;>rfl
     |some p=>rfl
    rcases hes with⟨rfl,rfl⟩|⟨r0,clock,rfl,hw⟩
    .simp only[Instr.lookup,aP,bK ok hd,aQ,aW,hck,Aw ok hkd hr];exact fin w
    .simp only[Instr.lookup,aP,bK ok hd,aQ,aW,lr hw (by simp),hck,Aw ok hkd hr];exact fin w
   split at h2
   .rename_i u hf;simp only[av]at h2;subst h2;rcases y3 hk gi hf he with⟨h3,_⟩|⟨j,v0,v',h3,h4,h5,_⟩
    .cases h3
    .cases h3;refine⟨_,?_,fin h5⟩;rw[run h4];rfl
   .rename_i hf;obtain⟨z,hz,h3⟩:=R.aF h2;simp only[av]at h3;subst h3;obtain⟨_,_,_,hzv⟩:=Br hz;rcases y3 hk gi hf he with⟨_,h4⟩|⟨j,v0,v',h3,_⟩
    .refine⟨_,?_,fin (hzv ι)⟩;rw[run h4];simp only[aP,DZ ok hz,aQ,aW]
    .cases h3
   .cases h2
 .cases h
end
section
variable {tb:aO}(ok:dP tb){ι:a8}{A:Mem}{w:aG}
variable {cs:Array O}
def KY{l:Loc}{t:aj}{fr:Nat×Nat}(h:w.heap[l.blk]?=U (.cells cs t fr)):w.shape? l.blk=U (t,cs.size):=by
 simp only[World.shape?,h]
variable {o:Nat}
def OL{s:Option Nat}{t:aj}(h:w.heap[b]?=U (.cells cs t (0,0))):w.frozen? ⟨b,o,s⟩=af:=by
 simp only[World.frozen?,h];simp
def Qm{s:Option Nat}{x:aj×Nat}(h:w.shape? b=U x)(P:cI):(noView ⟨b,o,s⟩).run P w=.ok () w:=by
 simp only[noView,viewAt,aP,run_shape,h,Option.isSome_some,bR,aW,aQ,yl,ed,bO]
variable {b':Nat}
def qgR{o':Nat}{cs':Array O}{t t':aj}(h:w.heap[b]?=U (.cells cs t (0,0)))(h':w.heap[b']?=U (.cells cs' t' (0,0)))(hne:b≠b')(P:cI):
 (sameAddr ⟨b,o,Y⟩ ⟨b',o',Y⟩).run P w=.ok af w:=by
 have hbe:(b==b')=af:=by simpa using hne
 have s1:w.shape? b=U (t,cs.size):=by simp only[World.shape?,h]
 have s2:w.shape? b'=U (t',cs'.size):=by simp only[World.shape?,h']
 simp only[sameAddr,hbe,ed,bO,aP,run_frozen,OL h,OL h',aQ,Bool.and_self,Qm s1,Qm s2,mayBeOne,stringish,run_shape,s1,s2,aW,
  zB,Bool.or_self]
def Rs(hr:Rel ι A w){a b a' b':Option Addr}{r:Bool}(h:ptrEq A.get a b=.ok r)(ha:VR ι (.pointer a) (.pointer a'))(hb:VR ι (.pointer b) (.pointer b'))(P:cI):
 (match a',b' with
  |none,b'=>pure b'.isNone
  |some _,Y=>pure af
  |some a',U b'=>sameAddr a' b':Sem Bool).run P w=.ok r w:=by
 cases ha with
 |ptrN=>
  cases hb with
  |ptrN=>simp only[ptrEq,av]at h;subst h;rfl
  |ptr hl=>simp only[ptrEq,av]at h;subst h;rfl
 |ptr hl=>
  cases hb with
  |ptrN=>simp only[ptrEq,av]at h;subst h;rfl
  |ptr hl'=>
   rename_i b o l b' o' l';simp only[ptrEq]at h;cases hbb:aL b b' with
   |true=>
    obtain rfl:=beq_true hbb;rw[hl]at hl';cases hl';rw[hbb]at h;simp only[aI,av]at h;subst h;simp only[sameAddr,beq_self_eq_true,bR,aW];congr 1;rw[qu];simp
   |false=>
    rw[hbb]at h;simp only[ba]at h;split at h
    .rename_i t n fz c t' n' fz' c' hg hg';simp only[av]at h;subst h;obtain⟨o1,hw1,cs1,fr1,rfl,_,_,_,_,rfl⟩:=hr.obs _ _ _ hg rfl hl;obtain⟨o2,hw2,cs2,fr2,rfl,_,_,_,_,rfl⟩:=hr.obs _ _ _ hg' rfl hl';exact qgR hw1 hw2 (λ he=>beq_false hbb (hr.inj _ _ _ _ ⟨_,hg,rfl⟩ ⟨_,hg',rfl⟩ hl hl' he)) P
    .cases h
include ok in
theorem Oo {eq:aj->O->O->R Bool} {m:aj->O->O->Sem Bool} (he:∀t x x' y y' r,eq t x y=.ok r->VR ι x x'->VR ι y y'->(m t x' y').run tb.P w=.ok r w) {xs ys:List O} {xs' ys':Array O}
 (hx:bn ι xs xs'.toList) (hy:bn ι ys ys'.toList):∀{fs:List Field} {r:Bool},xf tb eq xs ys fs=.ok r->
 (forIn fs ((Y,()):Option Bool×Unit) λ f __s=>
  if f.name≠ "_" then do
   let __do_lift<-part f.type xs' f.offset;let __do_lift_1<-part f.type ys' f.offset;let __do_lift<-m f.type __do_lift __do_lift_1
   if(!__do_lift)=aa then pure (ForInStep.done (U af,()))else pure (ForInStep.yield (Y,()))
  else(pure (ForInStep.yield (Y,())):Sem (ForInStep (Option Bool×Unit)))).run tb.P w=.ok (if r then Y else U af,()) w
 | [],r,h=>by simp only[xf,av]at h;subst h;rfl
 |f::fs,r,h=>by
  unfold xf at h;cases hn:(f.name== "_")with
  |true=>rw[hn]at h;cases h
  |false=>
   rw[hn]at h;simp only[ba]at h;obtain⟨a,h1,h2⟩:=R.aF h;obtain⟨b,h3,h4⟩:=R.aF h2;obtain⟨q,h5,h6⟩:=R.aF h4;obtain⟨a',e1,r1⟩:=zd ok h1 hx;obtain⟨b',e2,r2⟩:=zd ok h3 hy;have e3:=he _ _ _ _ _ _ h5 r1 r2;have hn':f.name≠ "_" :=by simpa using hn
   rw[List.forIn_cons];simp only[aP,aC hn',e1,e2,e3,aQ];cases q with
   |true=>
    simp only[sZ,ed,bO,aW,aQ];exact Oo he hx hy h6
   |false=>
    simp only[av]at h6;subst h6;simp
include ok in
theorem NM {eq:aj->O->O->R Bool} {m:aj->O->O->Sem Bool} (he:∀t x x' y y' r,eq t x y=.ok r->VR ι x x'->VR ι y y'->(m t x' y').run tb.P w=.ok r w) {xs ys:List O} {xs' ys':Array O}
 (hx:bn ι xs xs'.toList) (hy:bn ι ys ys'.toList) {elem:aj} {size:Nat}:∀{n i:Nat} {r:Bool},CI tb eq elem size xs ys n i=.ok r->
 (forIn (uf i n 1) ((Y,()):Option Bool×Unit) λ i __s=>(do
  let __do_lift<-part elem xs' (i*size);let __do_lift_1<-part elem ys' (i*size);let __do_lift<-m elem __do_lift __do_lift_1
  if(!__do_lift)=aa then pure (ForInStep.done (U af,()))else pure (ForInStep.yield (Y,())):Sem (ForInStep (Option Bool×Unit)))).run tb.P w=.ok (if r then Y else U af,()) w
 |0,i,r,h=>by simp only[CI,av]at h;subst h;rfl
 |n+1,i,r,h=>by
  unfold CI at h;obtain⟨a,h1,h2⟩:=R.aF h;obtain⟨b,h3,h4⟩:=R.aF h2;obtain⟨q,h5,h6⟩:=R.aF h4;obtain⟨a',e1,r1⟩:=zd ok h1 hx;obtain⟨b',e2,r2⟩:=zd ok h3 hy;have e3:=he _ _ _ _ _ _ h5 r1 r2;rw[List.range'_succ,List.forIn_cons];simp only[aP,e1,e2,e3,aQ];cases q with
  |true=>
   simp only[sZ,ed,bO,aW,aQ];exact NM he hx hy h6
  |false=>
   simp only[av]at h6;subst h6;simp
include ok in
theorem I7 (hr:Rel ι A w):∀(d:Nat) {t:aj} {x x' y y':O} {r:Bool},jV tb A.get d t x y=.ok r->VR ι x x'->VR ι y y'->∀e,d<=e->(Op.equalIn e t x' y').run tb.P w=.ok r w
 |0,t,x,x',y,y',r,h,_,_,_,_=>by cases h
 |d+1,t,x,x',y,y',r,h,hx,hy,e,hle=>by
  obtain⟨e,rfl⟩:∃e',e=e'+1:=⟨e-1,by omega⟩;have ih:∀{t x x' y y' r},jV tb A.get d t x y=.ok r->VR ι x x'->VR ι y y'->(Op.equalIn e t x' y').run tb.P w=.ok r w:=λ h hx hy=>I7 hr d h hx hy e (by omega)
  unfold jV at h;rw[Op.equalIn];split at h
  .rename_i a b hd;cases hx;cases hy;simp only[av]at h;subst h;simp only[aP,bK ok hd,aQ];cases a<;>cases b<;>rfl
  .rename_i k0 k a k' b hd;cases hx;cases hy;cases hk:iA k k' with
   |false=>rw[hk]at h;cases h
   |true=>
    rw[hk]at h;simp only[aI,av]at h;subst h;obtain rfl:=C6 hk;simp only[aP,bK ok hd,aQ,bR,aW,xj]
  .rename_i a b hd;cases hx;cases hy;simp only[av]at h;subst h;simp only[aP,bK ok hd,aQ,aW,pj,bytes_beq]
  .rename_i elem a b hd;obtain⟨n,h1,h2⟩:=R.aF h;simp only[aP,bK ok hd,aQ];have hx':∃a',x'=.pointer a':=by cases hx<;>exact⟨_,rfl⟩
   have hy':∃b',y'=.pointer b':=by cases hy<;>exact⟨_,rfl⟩
   obtain⟨a',rfl⟩:=hx';obtain⟨b',rfl⟩:=hy';split at h2
   .rename_i a0 b0;cases hn:aL n 0 with
    |true=>rw[hn]at h2;cases h2
    |false=>
     rw[hn]at h2;simp only[ba]at h2;have:=Rs hr h2 hx hy tb.P;cases hx;cases hy;simp only[aP,jB ok h1,aQ,aC (beq_false hn)];exact this
   .have:=Rs hr h2 hx hy tb.P;rename_i hne;cases hx with
    |ptrN=>exact this
    |ptr hl=>
     cases hy with
     |ptrN=>exact this
     |ptr hl'=>exact(hne _ _ rfl rfl).elim
  .rename_i ms hd;cases hx;cases hy;simp only[av]at h;subst h;simp only[aP,bK ok hd,aQ];rfl
  .rename_i ms u z hd;cases hx;cases hy;simp only[av]at h;subst h;simp only[aP,bK ok hd,aQ];rfl
  .rename_i ms u z hd;cases hx;cases hy;simp only[av]at h;subst h;simp only[aP,bK ok hd,aQ];rfl
  .rename_i ms tx vx ty vy hd;cases hx with
   |iface hx=>
    cases hy with
    |iface hy=>
     simp only[aP,bK ok hd,aQ];cases hb:aL tx ty with
     |true=>
      rw[hb]at h;simp only[aI]at h;obtain rfl:=beq_true hb;split at h
      .rename_i i hi;cases hc:i.comparable with
       |false=>rw[hc]at h;cases h
       |true=>
        rw[hc]at h;simp only[aI]at h;simp only[ne_eq,not_true_eq_false,bO,aP,sK ok hi,aQ,hc,sZ,ed];exact ih h hx hy
      .cases h
     |false=>
      rw[hb]at h;simp only[ba,av]at h;subst h;simp only[ne_eq,aC (beq_false hb),aW]
  .rename_i fs xs ys hd;cases hx with
   |agg hxs=>
    cases hy with
    |agg hys=>
     cases hs:tb.P.stoodInHeld t with
     |true=>rw[hs]at h;cases h
     |false=>
      rw[hs]at h;simp only[ba]at h;simp only[aP,bK ok hd,aQ,run_program,hs,ed,bO];rw[<-Array.forIn_toList];have:=Oo ok (m:=Op.equalIn e) (λ _ _ _ _ _ _ a b c=>ih a b c) hxs hys h;refine(cV (λ q=>Result.andThen q _) this).trans ?_;cases r<;>rfl
  .rename_i len elem xs ys hd;cases hx with
   |agg hxs=>
    cases hy with
    |agg hys=>
     obtain⟨n,h1,h2⟩:=R.aF h;simp only[aP,bK ok hd,aQ,jB ok h1];rw[Std.Legacy.Range.forIn_eq_forIn_range'];have:=NM ok (m:=Op.equalIn e) (λ _ _ _ _ _ _ a b c=>ih a b c) hxs hys h2;have hsz:Std.Legacy.Range.size [:len]=len:=by simp[Std.Legacy.Range.size]
     rw[hsz];refine(cV (λ q=>Result.andThen q _) this).trans ?_;cases r<;>rfl
  .rename_i e0 l c b l' c' hd;cases hx;simp only[av]at h;subst h;simp only[aP,bK ok hd,aQ];cases hy<;>rfl
  .rename_i e0 a l c l' c' hd;cases hy;simp only[av]at h;subst h;simp only[aP,bK ok hd,aQ];cases hx<;>rfl
  .rename_i k0 e0 b hd;cases hx;simp only[av]at h;subst h;simp only[aP,bK ok hd,aQ];cases hy<;>rfl
  .rename_i k0 e0 a hd;cases hy;simp only[av]at h;subst h;simp only[aP,bK ok hd,aQ];cases hx;rfl
  .rename_i hd;cases hx;cases hy;simp only[av]at h;subst h;simp only[aP,bK ok hd,aQ];rfl
  .rename_i hd;cases hx;simp only[av]at h;subst h;simp only[aP,bK ok hd,aQ];cases hy<;>rfl
  .rename_i hd;cases hy;simp only[av]at h;subst h;simp only[aP,bK ok hd,aQ];cases hx<;>rfl
  .cases h
end
end Go.Am
end
