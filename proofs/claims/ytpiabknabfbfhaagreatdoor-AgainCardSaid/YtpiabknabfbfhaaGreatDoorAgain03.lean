/- 3 -/
import Derived.KernelRfl
import Derived.Test.YtpiabknabfbfhaaGreatDoorProg
import Derived.Conc.Beside
import Derived.Laws.BitsLemmas
import Derived.Lib.UnsafeStr
import Derived.Conc.TokenFlight
import Derived.Conc.TokenWalk
import Derived.Test.YtpiabknabfbfhaaGreatDoorAgain02
set_option linter.all false
set_option maxRecDepth 100000
set_option maxHeartbeats 8000000
namespace Go.Qw
open Go Go.Proofs.Tryz
section
open Go.Conc
def fH(P:Program)(op:Op)(I:av)(U:Hp)(K:Value->Prop):Prop:=∃v,cV P op I U=some v/\K v
variable {P:Program}{I:av}{U:Hp}{K:Value->Prop}{jA:Nat}
@[congr] theorem auz{op:Op}(_:tick 0=jA):fH P op I U K=fH P op I U K:=rfl
def og{w:Value}:(∃v,some w=some v/\K v)=K w:=propext ⟨λ⟨v,h,k⟩=>by cases h;exact k,λk=>⟨w,rfl,k⟩⟩
def gG:(∃v,(none:Option Value)=some v/\K v)=False:=propext ⟨λ⟨v,h,k⟩=>(by cases h),λk=>k.elim⟩
variable {x:Operand}
def aoD:fH P (.move x) I U K=kK K (ak I x):=og
def aos:fH P (.assign x) I U K=kK K (ak I x):=og
def aoF{c a b:Operand}:fH P (.pick c a b) I U K=tM (kK K (ak I a)) (kK K (ak I b)) (ak I c):=by
 unfold fH tM cV
 dsimp only
 generalize ak I c=y
 cases y with
 |bool t=>cases t<;>exact og
 |_=>exact gG
variable {t:TypeId}
def ajV{a:Addr}:(∃v,jh P t a U=some v/\K v)=oD P t a U K:=by
 apply propext;constructor
 ·rintro⟨v,h,k⟩;exact va h k
 ·intro h;unfold oD at h;unfold jh;split at h
  ·rename_i hc;rw[if_pos hc];split at h
   ·rename_i cs qT;exact⟨_,by rw[qT];rfl,h⟩
   ·exact h.elim
  ·rename_i hc;rw[if_neg hc];split at h
   ·rename_i v hv;exact⟨v,hv,h⟩
   ·exact h.elim
def aoB:fH P (.load t x) I U K=ky (dt P t) (rn (λa=>oD P t a U K) (ak I x)):=by
 unfold fH ky cV rn
 dsimp only
 simp only[<-ajV];generalize ak I x=y
 cases y with
 |pointer a=>
  cases a with
  |none=>exact gG.trans al
  |some a=>cases ht:dt P t<;>simp
 |_=>exact gG.trans al
def aoE:fH P (.nilCheck x) I U K=yp K (ak I x):=by
 unfold fH yp cV
 dsimp only
 generalize ak I x=y
 cases y with
 |pointer a=>cases a<;>first|exact gG|exact og
 |func f l c=>cases f<;>first|exact gG|exact og
 |_=>exact gG
def aow{s:TypeId}{f:Nat}:fH P (.fieldAddr s x f) I U K=rn (λa=>mP (λn=>kK K (.pointer (some (a.add n)))) (bM P s f)) (ak I x):=by
 unfold fH rn cV
 dsimp only
 generalize ak I x=y
 cases y with
 |pointer a=>
  cases a with
  |none=>exact gG
  |some a=>generalize bM P s f=z;cases z<;>first|exact gG|exact og
 |_=>exact gG
variable {u:TypeId}{y:Operand}
def aot{op:BinOp}:fH P (.binOp op t x y u) I U K=lH (lH (lH False K (nQ P op t x y (ak I x) (ak I y))) K (ft P op t (ak I x) (ak I y))) K (cK op (ak I x) (ak I y)):=by
 unfold fH cV
 dsimp only
 generalize cK op (ak I x) (ak I y)=a;generalize ft P op t (ak I x) (ak I y)=b;generalize nQ P op t x y (ak I x) (ak I y)=c
 cases a with
 |some a=>exact og
 |none=>cases b with
  |some b=>exact og
  |none=>cases c with
   |some c=>exact og
   |none=>exact gG
def aoI{op:UnOp}:fH P (.unOp op t x) I U K=mP K (vB op (ak I x)):=by
 unfold fH cV
 dsimp only
 generalize vB op (ak I x)=y
 cases y<;>first|exact gG|exact og
def aou{s d:TypeId}:fH P (.convert s d x) I U K=lH False K (mw P s d (ak I x)):=by
 unfold fH cV
 dsimp only
 generalize mw P s d (ak I x)=y
 cases y<;>first|exact gG|exact og
def aoC:fH P (.makeInterface t x) I U K=ky (iG P t) (kK (λv=>K (.iface t v)) (ak I x)):=by
 unfold fH cV ky iG kK
 dsimp only
 cases P.underlying t with
 |none=>simp
 |some d=>cases d<;>simp
def aox{f:Fn}{l c:Array Operand}:fH P (.makeFunc f l c) I U K=kK K (.func f (l.map (ak I)) (c.map (ak I))):=og
def aov{i:Nat}:fH P (.extract x i) I U K=Au K i (ak I x):=by
 unfold fH cV Au
 dsimp only
 generalize ak I x=y
 cases y with
 |tuple vs=>show(∃v,vs[i]? =some v/\K v)=mP K vs[i]?;generalize vs[i]? =z;cases z<;>first|exact gG|exact og
 |_=>exact gG
def aoz{cB:Array TypeId}(h:cB[0]? =some t):fH P (.call ⟨.builtin .len,#[x],cB⟩) I U K=oE P False K t (ak I x):=by
 have e:(#[x].map (ak I))[0]? =some (ak I x):=al;unfold fH cV oE
 dsimp only
 simp only[h,e]
 cases yh P t (ak I x)<;>cases yi (ak I x)<;>simp
def vT{c:Prop} [Decidable c]{w:Value}:(∃v,(if c then some w else none)=some v/\K v)=jr c (K w):=by
 unfold jr;by_cases h:c
 ·simp only[h,if_true,true_and];exact og
 ·simp only[h,if_false,false_and];exact gG
variable {lo hi:Option Operand}
def aoH(h:qu P t=true):fH P (.slice t x lo hi none) I U K=yC False K (lo.map (ak I)) (hi.map (ak I)) (ak I x):=by
 unfold fH cV;simp only[Ff h];generalize ak I x=vx;generalize lo.map (ak I)=l;generalize hi.map (ak I)=u
 cases vx with
 |string s=>
  simp only[yC]
  cases l with
  |none=>
   simp only[nU,mL]
   cases u with
   |none=>simp only[jS,ju];exact vT
   |some u=>simp only[jS,ju];cases u<;>first|exact vT|exact gG
  |some l=>
   cases l with
   |int k n=>
    simp only[nU,mL]
    cases u with
    |none=>simp only[jS,ju];exact vT
    |some u=>simp only[jS,ju];cases u<;>first|exact vT|exact gG
   |_=>simp only[nU,mL];exact gG
 |_=>simp only[yC];exact gG
def aoy{i:Operand}:fH P (.indexAddr t x i) I U K=qI False (λz=>uY False z K (ak I i) (ak I x)) (iW P t):=by
 have e0:cV P (.indexAddr t x i) I U=match tR P t,ak I x,ak I i with
  |some e,.slice (some a) n _,.int _ k=>if 0<=k/\k<n/\(P.info? e).isSome=true then some (.pointer (some (a.add (k.toNat*cD P e))))else none
  |_,_,_=>none:=rfl
 unfold fH;rw[e0]
 cases h:iW P t with
 |none=>
  rw[Gn];unfold iW at h;split at h
  ·rename_i e he
   have hi:(P.info? e).isSome=false:=by
    cases hh:P.info? e with
    |none=>rfl
    |some i=>rw[hh]at h;cases h
   rw[he]
   cases ak I x<;>try exact gG
   rename_i a n c
   cases a<;>try exact gG
   cases ak I i<;>try exact gG
   simp[hi]
  ·rename_i he;rw[he];exact gG
 |some z=>
  obtain⟨e,he,hs,hz⟩:=C1 h;subst hz;rw[vU];unfold uY;rw[he]
  cases ak I x<;>try exact gG
  rename_i a n c
  cases a<;>try exact gG
  cases ak I i<;>try exact gG
  simp only[hs,and_true];exact vT
def aoA:fH P (.call ⟨.builtin .len,#[x],#[t]⟩) I U K=oE P False K t (ak I x):=aoz rfl
variable {E:Env P}{N:Nat}{ops:Array Oper}{Q:Post}{pn:List PanicEntry->List Deferred->Hp->Prop}{cJ:List (Nat×av×Value)}{ds:List Deferred}{l:List Nat}
@[congr] theorem auO(_:tick 0=jA):gh E N ops Q pn l cJ I ds U=gh E N ops Q pn l cJ I ds U:=rfl
variable {dst:Option Tmp}
def dQ(E:Env P)(N:Nat)(ops:Array Oper)(Q:Post)(pn:List PanicEntry->List Deferred->Hp->Prop)(i:Nat)(rest:List Nat)(cJ:List (Nat×av×Value))(I:av)(ds:List Deferred)(U:Hp):Option Oper->Prop
 |none=>False
 |some o=>pD N o.dst=true/\
  if cW o.op then
   if Region.wanted o (gX N ops I)then match cV P o.op I U with
    |some v=>gh E N ops Q pn rest ((i,I,v)::cJ) (aB I o.dst v) ds U
    |none=>False
   else gh E N ops Q pn rest cJ (aB I o.dst undef) ds U
  else if Region.wanted o (gX N ops I)then aU E o I ds U (λaC dk ae=>px (P:=P) ops i ae cJ/\gh E N ops Q pn rest cJ aC dk ae) (λch ae=>pn ch ds ae)
  else gh E N ops Q pn rest cJ (aB I o.dst undef) ds U
variable {rest:List Nat}{i:Nat}
@[congr] theorem asJ{o o':Option Oper}(h:tick o=o'):dQ E N ops Q pn i rest cJ I ds U o=dQ E N ops Q pn i rest cJ I ds U o':=by subst h;rfl
def abZ:gh E N ops Q pn [] cJ I ds U=Q .normal I ds U:=bp
def abX:gh E N ops Q pn (i::rest) cJ I ds U=dQ E N ops Q pn i rest cJ I ds U (ops[i]?):=by
 simp only[gh,dQ]
 cases ops[i]? <;>rfl
def bQ(p q:Prop):Bool->Prop
 |true=>p
 |false=>q
variable {p q:Prop}{b:Bool}
@[congr] theorem asx{b':Bool}(h:tick b=b'):bQ p q b=bQ p q b':=by subst h;rfl
def YO:bQ p q true=p:=bp
def YN:bQ p q false=q:=bp
variable {ty:TypeId}{pos:String}{af:Array Edge}{op:Op}
def ab0:dQ E N ops Q pn i rest cJ I ds U (some ⟨dst,op,ty,pos,af,none⟩)=
 ky (pD N dst) (bQ (fH P op I U λv=>gh E N ops Q pn rest ((i,I,v)::cJ) (aB I dst v) ds U)
  (aU E ⟨dst,op,ty,pos,af,none⟩ I ds U (λaC dk ae=>px (P:=P) ops i ae cJ/\gh E N ops Q pn rest cJ aC dk ae) (λch ae=>pn ch ds ae)) (cW op)):=by
 simp only[dQ,ky,Region.wanted,if_true]
 cases h:cW op
 ·rfl
 ·simp only[if_true,bQ,fH];congr 1
  cases cV P op I U with
  |none=>exact gG.symm
  |some v=>exact(og (K:=λv=>gh E N ops Q pn rest ((i,I,v)::cJ) (aB I dst v) ds U)).symm
variable {j:Nat}
def abY:dQ E N ops Q pn i rest cJ I ds U (some ⟨dst,op,ty,pos,af,some (j,b)⟩)=
 ky (pD N dst) (bQ (my (fH P op I U λv=>gh E N ops Q pn rest ((i,I,v)::cJ) (aB I dst v) ds U) (gh E N ops Q pn rest cJ (aB I dst undef) ds U) b (gX N ops I j))
  (my (aU E ⟨dst,op,ty,pos,af,some (j,b)⟩ I ds U (λaC dk ae=>px (P:=P) ops i ae cJ/\gh E N ops Q pn rest cJ aC dk ae) (λch ae=>pn ch ds ae)) (gh E N ops Q pn rest cJ (aB I dst undef) ds U) b (gX N ops I j)) (cW op)):=by
 simp only[dQ,ky,Region.wanted]
 cases h:cW op
 ·simp only[Bool.false_eq_true,if_false,bQ,my,beq_iff_eq]
 ·simp only[if_true,bQ,fH,my,beq_iff_eq];congr 1;split
  ·cases cV P op I U with
   |none=>exact gG.symm
   |some v=>exact(og (K:=λv=>gh E N ops Q pn rest ((i,I,v)::cJ) (aB I dst v) ds U)).symm
  ·rfl
def aiJ:cW (.move x)=true:=bp
def ail:cW (.assign x)=true:=bp
def aiL{z:Operand}:cW (.pick x y z)=true:=bp
def aiC:cW (.load t x)=true:=bp
def aiK:cW (.nilCheck x)=true:=bp
def aiv{f:Nat}:cW (.fieldAddr t x f)=true:=bp
def aim{o:BinOp}:cW (.binOp o t x y u)=true:=bp
def aiO{o:UnOp}:cW (.unOp o t x)=true:=bp
def ais:cW (.convert t u x)=true:=bp
def aiI:cW (.makeInterface t x)=true:=bp
def aiw{f:Fn}{x y:Array Operand}:cW (.makeFunc f x y)=true:=bp
def aiu{k:Nat}:cW (.extract x k)=true:=bp
def aiy:cW (.indexAddr t x y)=true:=bp
def aix:cW (.index t x y)=true:=bp
def aiM:cW (.slice t x lo hi none)=true:=bp
def HC(t:Nat):Bool:=#[t] != #[273]
def aiB{x:Array Operand}:cW (.call ⟨.builtin .len,x,#[t]⟩)=HC t:=bp
def ake{t:Nat}(h:(t==273)=false):HC t=true:=by have:t≠273:=aW h;simp[HC,bne,this]
def akd:HC 273=false:=ai
def aiq{a:Array Operand}{b:Array TypeId}:cW (.call ⟨.value x,a,b⟩)=false:=bp
def aik{x:Array Operand}{a:Array TypeId}:cW (.call ⟨.builtin .append,x,a⟩)=false:=bp
def aiN:cW (.store t x y)=false:=bp
def aij:cW (.alloc t)=false:=bp
def ain:cW (.box t x)=false:=bp
variable {p:Array (Nat×Operand)}
def aio{n:Nat}:cW (.buildSlice t n p)=false:=bp
def aip:cW (.build t p)=false:=bp
def UH(ops:Array Oper)(i j:Nat):Bool:=match ops[j]? with
 |some o=> !(DC o.op&& !ff ops i j)
 |none=>true
def jL:px (P:=P) ops i U []:=trivial
variable {v:Value}
def jK(h:UH ops i j=true)(k:px (P:=P) ops i U cJ):px (P:=P) ops i U ((j,I,v)::cJ):=by
 refine⟨?_,k⟩;unfold UH at h;split
 ·rename_i o ho;rw[ho]at h;simp only[Bool.not_eq_true']at h;rw[h];simp
 ·trivial
def aju{o:Oper}(ho:ops[j]? =some o)(h:cV P o.op I U=some v)(k:px (P:=P) ops i U cJ):px (P:=P) ops i U ((j,I,v)::cJ):=by
 refine⟨?_,k⟩;rw[ho];simp only[];split
 ·exact h
 ·trivial
def lF{g:Option (Nat×Bool)}(ho:ops[j]? =some ⟨dst,op,ty,pos,af,g⟩)(h:fH P op I U λw=>w=v)(k:px (P:=P) ops i U cJ):px (P:=P) ops i U ((j,I,v)::cJ):=by obtain⟨w,h1,rfl⟩:=h;exact aju ho h1 k
variable {p F0:Prop}
def dL(a:F0)(e:F0->p:=by intro a;repeat(first|exact jL|(apply jK;(focus decide+kernel))|(refine lF rfl (aQ a) ?_))):p:=e a
variable {F1:Prop}
def jg(a:F0)(b:F1)(e:F0->F1->p:=by intro a b;repeat(first|exact jL|(apply jK;(focus decide+kernel))|(refine lF rfl (xu a b) ?_))):p:=e a b
variable {F2:Prop}
def dF(a:F0)(b:F1)(c:F2)(e:F0->F1->F2->p:=by intro a b c;repeat(first|exact jL|(apply jK;(focus decide+kernel))|(refine lF rfl (nW a b c) ?_))):p:=e a b c
def kg4{F3:Prop}(a:F0)(b:F1)(c:F2)(d:F3)(e:F0->F1->F2->F3->p:=by intro a b c d;repeat(first|exact jL|(apply jK;(focus decide+kernel))|(refine lF rfl (iP a b c d) ?_))):p:=e a b c d
attribute [go_sem] abZ abX aoy ab0 abY YO YN aoD aos aoF aoB aoE aow aot aoI aou aoC aox aov aoA aoH aiM
 aiJ ail aiL aiC aiK aiv aim aiO ais aiI aiw aiu aiy aix aiB ake akd aiq aik aiN aij ain aio aip
variable {A:Prop}
def gf{B:Prop}(b:B)(a:A:=by(repeat(first|exact jL|(apply jK;(focus decide+kernel))))):A/\B:=⟨a,b⟩
def L4{B:Prop}(f:F0)(b:B)(a:F0->A:=by intro f;(repeat(first|exact jL|(apply jK;(focus decide+kernel))|(refine lF rfl (by simp only[go_sem,seval,f]) ?_)))):A/\B:=⟨a f,b⟩
def Tz{B:Prop}(f:F0)(g:F1)(b:B)(a:F0->F1->A:=by intro f g;(repeat(first|exact jL|(apply jK;(focus decide+kernel))|(refine lF rfl (by simp only[go_sem,seval,f,g]) ?_)))):A/\B:=⟨a f g,b⟩
def kp3{B:Prop}(f:F0)(g:F1)(h:F2)(b:B)(a:F0->F1->F2->A:=by intro f g h;(repeat(first|exact jL|(apply jK;(focus decide+kernel))|(refine lF rfl (by simp only[go_sem,seval,f,g,h]) ?_)))):A/\B:=⟨a f g h,b⟩
def aiE{r:Option Operand}:cW (.makeMap t r)=false:=bp
attribute [go_sem] aiE
def iv(ops:Array Oper)(v u:Nat):Array Oper:=ops.modify v λo=>{o with after:=o.after.push {on:=u,ground:=.data}}
variable {u v:Nat}
def Xr:(iv ops v u).size=ops.size:=by simp[iv]
def Jg:(iv ops v u)[i]? =(ops[i]?).map λo=>if i=v then{o with after:=o.after.push {on:=u,ground:=.data}}else o:=by
 unfold iv;rw[Array.getElem?_modify];by_cases h:v=i
 ·subst h;cases ops[v]? <;>simp
 ·have:¬i=v:=λe=>h e.symm
  cases ops[i]? <;>simp[h,this]
def xf{listed:Array Bool}:i∈Region.ready .any (iv ops v u) listed↔i∈Region.ready .any ops listed/\(i=v->listed.getD u false=true):=by
 rw[mem_ready,mem_ready,Jg];constructor
 ·rintro⟨h0,o,ho,hd⟩;obtain⟨o',uK,rfl⟩:=Option.map_eq_some_iff.1 ho;by_cases e:i=v
  ·simp only[if_pos e]at hd;refine⟨⟨h0,o',uK,λx hx hb=>hd x (by simp[hx]) hb⟩,λ_=>hd ⟨u,.data⟩ al rfl⟩
  ·simp only[if_neg e]at hd;exact⟨⟨h0,o',uK,hd⟩,λh=>absurd h e⟩
 ·rintro⟨⟨h0,o,ho,hd⟩,hv⟩;refine⟨h0,_,by rw[ho];rfl,λx hx hb=>?_⟩;by_cases e:i=v
  ·simp only[if_pos e,Array.mem_push]at hx;rcases hx with hx|rfl
   ·exact hd x hx hb
   ·exact hv e
  ·simp only[if_neg e]at hx;exact hd x hx hb
def asd:gX N (iv ops v u) I=gX N ops I:=by
 funext j
 unfold gX;rw[Jg]
 cases ops[j]? with
 |none=>rfl
 |some o=>by_cases h:j=v<;>simp[h]
variable {K:av->List Deferred->Hp->Prop}
def Fc:ml E N (iv ops v u) Q i K I ds U↔ml E N ops Q i K I ds U:=by
 unfold ml;rw[Jg,asd]
 cases ops[i]? with
 |none=>exact Iff.rfl
 |some o=>
  by_cases h:i=v
  ·simp only[Option.map_some,if_pos h];exact Iff.rfl
  ·simp only[Option.map_some,if_neg h]
def aqp{o:Oper}(ho:ops[i]? =some o)(hr:cW o.op=true){K':av->List Deferred->Hp->Prop}(h:ml E N ops Q i K I ds U)(h':ml E N ops Q i K' I ds U):
 ml E N ops Q i (λI ds U=>K I ds U/\K' I ds U) I ds U:=by
 unfold ml at*;rw[ho]at*;refine⟨h.1,?_⟩;have h2:=h.2;have lr:=h'.2;split
 ·rename_i hw;rw[if_pos hw,if_pos hr]at h2 lr;obtain⟨v,e,k⟩:=h2;obtain⟨v',e',k'⟩:=lr;rw[e]at e';obtain rfl:=Option.some.inj e';exact⟨v,e,k,k'⟩
 ·rename_i hw;rw[if_neg hw]at h2 lr;exact⟨h2,lr⟩
def OV:∀(fuel:Nat) (listed:Array Bool) (I:av) (ds:List Deferred) (U:Hp),listed.getD u false=true->tV E N (iv ops v u) Q fuel listed I ds U->tV E N ops Q fuel listed I ds U:=by
 have hr:∀(listed:Array Bool),listed.getD u false=true->∀i,i∈Region.ready .any ops listed->i∈Region.ready .any (iv ops v u) listed:=λlisted hv i hi=>xf.2 ⟨hi,λ_=>hv⟩
 have gu:∀(listed:Array Bool),Region.ready .any ops listed=[]->Region.ready .any (iv ops v u) listed=[]:=by
  intro listed h
  cases e:Region.ready .any (iv ops v u) listed with
  |nil=>rfl
  |cons i t=>
   have:i∈Region.ready .any (iv ops v u) listed:=by rw[e];simp
   have:=(xf.1 this).1;rw[h]at this;cases this
 have SQ:∀(listed:Array Bool) (i:Nat),listed.getD u false=true->(listed.setIfInBounds i true).getD u false=true:=by
  intro listed i h;simp only[Array.getD_eq_getD_getElem?]at*;rw[Array.getElem?_setIfInBounds];by_cases e:i=u
  ·subst e;by_cases hb:i<listed.size
   ·simp[hb]
   ·rw[Array.getElem?_eq_none aa]at h;cases h
  ·simp only[if_neg e];exact h
 intro fuel
 induction fuel with
 |zero=>
  intro listed I ds U hv h;refine⟨?_,h.2⟩
  cases e:Region.ready .any ops listed with
  |nil=>rfl
  |cons i t=>
   have:i∈Region.ready .any ops listed:=by rw[e];simp
   have:=hr listed hv i this;rw[h.1]at this;cases this
 |succ fuel ih=>
  intro listed I ds U hv h;refine⟨λh0=>h.1 (gu listed h0),λi hi=>?_⟩;exact Fe (λI ds U=>ih _ I ds U (SQ listed i hv)) (Fc.1 (h.2 i (hr listed hv i hi)))
def ara(LK:u≠v)(hu:u<ops.size)(hv:v<ops.size)(afJ:∀i,i<ops.size->oI ops i=true\/i=u\/i=v\/ff ops i u=true):
 ∀(fuel:Nat) (listed:Array Bool) (I:av) (ds:List Deferred) (U:Hp),listed.size=ops.size->(∀a b,listed.getD a false=true->ff ops a b=true->listed.getD b false=true)->listed.getD u true=false->listed.getD v true=false->
  tV E N (iv ops v u) Q fuel listed I ds U->tV E N (iv ops u v) Q fuel listed I ds U->tV E N ops Q fuel listed I ds U:=by
 have hgd:∀(listed:Array Bool) (i:Nat),i<listed.size->listed.getD i true=listed.getD i false:=by intro listed i h;simp[Array.getD_eq_getD_getElem?,Array.getElem?_eq_getElem h]
 intro fuel
 induction fuel with
 |zero=>
  intro listed I ds U gQ GK zC Sz h1 h2;refine⟨?_,h1.2⟩
  cases e:Region.ready .any ops listed with
  |nil=>rfl
  |cons i t=>
   exfalso;have hm:i∈Region.ready .any ops listed:=by rw[e];simp
   by_cases hi:i=v
   ·have:i∈Region.ready .any (iv ops u v) listed:=xf.2 ⟨hm,λe=>absurd (e.symm.trans hi) LK⟩;rw[h2.1]at this;cases this
   ·have:i∈Region.ready .any (iv ops v u) listed:=xf.2 ⟨hm,λe=>absurd e hi⟩;rw[h1.1]at this;cases this
 |succ fuel ih=>
  intro listed I ds U gQ GK zC Sz h1 h2;refine⟨λh0=>h1.1 ?_,λi hi=>?_⟩
  ·cases e:Region.ready .any (iv ops v u) listed with
   |nil=>rfl
   |cons i t=>
    have:i∈Region.ready .any (iv ops v u) listed:=by rw[e];simp
    have:=(xf.1 this).1;rw[h0]at this;cases this
  ·have SQ:∀k,k<listed.size->(listed.setIfInBounds k true).getD k true=true:=by intro k hk;simp[Array.getD_eq_getD_getElem?,hk]
   by_cases GW:i=v
   ·subst GW;have hm:i∈Region.ready .any (iv ops u i) listed:=xf.2 ⟨hi,λe=>absurd e.symm LK⟩;have:=Fc.1 (h2.2 i hm);refine Fe (λI ds U hk=>?_) this;refine OV _ _ _ _ _ ?_ hk;simp[Array.getD_eq_getD_getElem?,gQ,hv]
   ·by_cases GV:i=u
    ·subst GV;have hm:i∈Region.ready .any (iv ops v i) listed:=xf.2 ⟨hi,λe=>absurd e LK⟩;have:=Fc.1 (h1.2 i hm);refine Fe (λI ds U hk=>?_) this;refine OV _ _ _ _ _ ?_ hk;simp[Array.getD_eq_getD_getElem?,gQ,hu]
    ·have m1:i∈Region.ready .any (iv ops v u) listed:=xf.2 ⟨hi,λe=>absurd e GW⟩;have m2:i∈Region.ready .any (iv ops u v) listed:=xf.2 ⟨hi,λe=>absurd e GV⟩;have s1:=Fc.1 (h1.2 i m1);have s2:=Fc.1 (h2.2 i m2);obtain⟨lW,o,ho,KR⟩:=mem_ready.1 hi;have uC:i<ops.size:=(Array.getElem?_eq_some_iff.1 ho).1;have uz:∀j,ff ops i j=true->listed.getD j false=true:=λj hj=>Vf GK ho KR hj
     have gK:cW o.op=true:=by
      rcases afJ i uC with h|h|h|h
      ·unfold oI at h;rw[ho]at h;exact h
      ·exact absurd h GV
      ·exact absurd h GW
      ·have:=uz u h;rw[<-hgd listed u aa,zC]at this;cases this
     have oz:∀(d:Bool) k,k≠i->(listed.setIfInBounds i true).getD k d=listed.getD k d:=by intro d k hk;simp[Array.getD_eq_getD_getElem?,Array.getElem?_setIfInBounds_ne (Ne.symm hk)]
     have oA:(listed.setIfInBounds i true).getD i false=true:=by simp[Array.getD_eq_getD_getElem?,gQ,uC]
     refine Fe (λI ds U hk=>ih _ _ _ _ (aW gQ) ?_ ?_ ?_ hk.1 hk.2) (aqp ho gK s1 s2)
     ·intro a b ha dr;by_cases e:b=i
      ·subst e;exact oA
      ·rw[oz false b e];by_cases e':a=i
       ·subst e';exact uz b dr
       ·rw[oz false a e']at ha;exact GK a b ha dr
     ·rw[oz true u (Ne.symm GV)];exact zC
     ·rw[oz true v (Ne.symm GW)];exact Sz
def Ql(hc:sX ops l=true)(uL:∀ch I ds U,pn ch ds U->Q (.panic ch) I ds U)(h:gh E N ops Q pn l [] I ds U):
 tV E N ops Q ops.size (Array.replicate ops.size false) I ds U:=by
 have G:=Rj hc;have e0:sl ops I (λ_=>none)=I:=by funext t;exact vy (λ_ _=>rfl)
 have lW:∀i,(Array.replicate ops.size false).getD i false=false:=λi=>by rw[Array.getD_eq_getD_getElem?,Array.getElem?_replicate];split<;>rfl
 have au1:vG E N ops Q pn I l (Array.replicate ops.size false) [] l [] (λ_=>none) ds U:=by refine⟨al,rfl,λi hi=>(by rw[lW]at hi;cases hi),λi hi=>(by cases hi),λ_ _=>rfl,λi hi=>(by cases hi),λi j hi=>(by rw[lW]at hi;cases hi),λr hr=>(by cases hr),(by rw[e0];exact h)⟩
 obtain⟨HX,oJ,vk,lM,I',_,hh⟩:=advance G _ _ _ _ au1;have:=OW G uL ops.size _ _ _ _ _ _ _ (by unfold Ci;exact Nat.le_trans List.countP_le_length al) I' hh
 have e1:sl ops I (λi=>if(Array.replicate ops.size false).getD i false=true then lM i else none)=I:=by funext t;exact vy (λi _=>by rw[lW];rfl)
 rw[e1]at this;exact this
def NS{id:Nat}(u v:Nat)(l1 l2:List Nat)(pn:List PanicEntry->List Deferred->Hp->Prop)(hm:P.follows .mixedOrders=true)(hc:(sX (iv ops v u) l1&&sX (iv ops u v) l2&&(u !=v)&&decide (u<ops.size)&&decide (v<ops.size)&&(List.range ops.size).all λi=>oI ops i||i==u||i==v||ff ops i u)=true)(uL:∀ch I ds U,pn ch ds U->Q (.panic ch) I ds U)(h1:gh E N (iv ops v u) Q pn l1 [] I ds U)(h2:gh E N (iv ops u v) Q pn l2 [] I ds U):cO E N (.region id ops true) Q I ds U:=by
 intro t;simp only[Bool.and_eq_true,List.all_eq_true,List.mem_range,Bool.or_eq_true,bne_iff_ne,ne_eq,decide_eq_true_eq,beq_iff_eq]at hc;obtain⟨⟨⟨⟨⟨c1,c2⟩,c3⟩,c4⟩,c5⟩,c6⟩:=hc
 have lW:∀(n i:Nat),(Array.replicate n false).getD i false=false:=λn i=>by rw[Array.getD_eq_getD_getElem?,Array.getElem?_replicate];split<;>rfl
 have a1:=Ql (E:=E) (N:=N) c1 uL h1;have a2:=Ql (E:=E) (N:=N) c2 uL h2;rw[Xr]at a1 a2;have:=ara c3 c4 c5 (λi hi=>by rcases c6 i hi with((h|h)|h)|h<;>simp[h]) ops.size (Array.replicate ops.size false) I ds U al (λa b ha=>by rw[lW]at ha;cases ha) (by simp[Array.getD_eq_getD_getElem?,c4]) (by simp[Array.getD_eq_getD_getElem?,c5]) a1 a2;simp only[Region.schedule,hm,Bool.true_or,if_true];exact Wl _ t _ _ _ _ this
end
section
open Go.Proofs
@[go_sem] def Xv:dD prog 36=true:=ah
@[go_sem] def asW:qo prog 23=true/\iW prog 22=some 1/\dt prog 3=true/\dD prog 3=false/\cD prog 3=1/\qu prog 9=true/\dv prog 36=some (.agg #[.slice none 0 0,.slice none 0 0])/\dt prog 36=true/\cD prog 36=2/\bM prog 36 0=some 0/\dt prog 34=true/\dD prog 34=false:=by and_intros<;>kernel_rfl
@[go_sem] def as2:cD prog 34=1/\iW prog 34=some 4/\bM prog 39 1=some 1/\bM prog 39 2=some 2/\iW prog 49=some 1/\dt prog 9=true/\dD prog 9=false/\cD prog 9=1/\iW prog 43=some 2/\bM prog 55 1=some 1/\bM prog 55 0=some 0/\dt prog 22=true:=by and_intros<;>kernel_rfl
@[go_sem] def as4:dD prog 22=false/\cD prog 22=1/\uS prog 45=true/\kN prog 22 1=some (3,[(0,1)],[.int Go.IntKind.i64 0])/\dv prog 66=some (.agg #[.int Go.IntKind.i64 0,.int Go.IntKind.i64 0,.int Go.IntKind.i64 0,.int Go.IntKind.i64 0,.int Go.IntKind.i64 0])/\jC prog 66=some [(0,1),(1,1),(2,1),(3,1),(4,1)]/\lL prog 3 5=none/\tF prog 3 5=some Go.IntKind.u8/\kN prog 67 2=some (5,[(0,1),(1,1)],[.int Go.IntKind.u8 0,.int Go.IntKind.u8 0])/\lL prog 67 9=none/\kN prog 67 1=some (5,[(0,1)],[.int Go.IntKind.u8 0])/\bM prog 74 4=some 8:=by and_intros<;>kernel_rfl
@[go_sem] def as7:dt prog 72=true/\dD prog 72=false/\jC prog 36=some [(0,1),(1,1)]/\bM prog 74 1=some 5/\dt prog 71=true/\dD prog 71=false/\iW prog 75=some 1/\dt prog 77=true/\dD prog 77=false/\cD prog 77=1/\bM prog 81 0=some 0/\bM prog 81 2=some 2:=by and_intros<;>kernel_rfl
@[go_sem] def as9:dv prog 39=some (.agg #[.string (B []),.int Go.IntKind.i64 0,.int Go.IntKind.i64 0,.int Go.IntKind.i64 0])/\jC prog 39=some [(0,1),(1,1),(2,1),(3,1)]/\kN prog 34 1=some (39,[(0,4)],[.string (B []),.int Go.IntKind.i64 0,.int Go.IntKind.i64 0,.int Go.IntKind.i64 0])/\qo prog 70=true/\iG prog 51=true/\bM prog 90 2=some 2/\dt prog 85=true/\dD prog 85=false/\cD prog 85=1/\bM prog 74 2=some 6/\bM prog 90 9=some 10/\bM prog 90 7=some 8:=by and_intros<;>kernel_rfl
@[go_sem] def atb:bM prog 90 8=some 9/\bM prog 66 0=some 0/\bM prog 66 1=some 1/\bM prog 66 2=some 2/\bM prog 66 3=some 3/\bM prog 66 4=some 4/\dt prog 66=true/\dD prog 66=true/\cD prog 66=5/\dv prog 74=some (.agg #[.int Go.IntKind.i64 0,.int Go.IntKind.i64 0,.int Go.IntKind.i64 0,.int Go.IntKind.i64 0,.int Go.IntKind.i64 0,.pointer none,.int Go.IntKind.i64 0,.int Go.IntKind.i64 0,.map none])/\jC prog 74=some [(0,5),(5,1),(6,1),(7,1),(8,1)]/\bM prog 116 0=some 0:=by and_intros<;>kernel_rfl
@[go_sem] def ate:dt prog 114=true/\dD prog 114=false/\bM prog 81 1=some 1/\dt prog 78=true/\dD prog 78=false/\cD prog 78=1/\qu prog 78=false/\iW prog 78=some 4/\bM prog 81 4=some 4/\dt prog 79=true/\dD prog 79=false/\cD prog 79=1:=by and_intros<;>kernel_rfl
@[go_sem] def aeq:ck prog 54=true:=ah
@[go_sem] def asP:qu prog 79=false/\iW prog 79=some 1/\bM prog 74 3=some 7/\bM prog 74 0=some 0/\dv prog 90=some (.agg #[.pointer none,.int Go.IntKind.i64 0,.int Go.IntKind.i64 0,.string (B []),.bool false,.map none,.int Go.IntKind.i64 0,.int Go.IntKind.i64 0,.int Go.IntKind.i64 0,.int Go.IntKind.i64 0,.int Go.IntKind.i64 0,.string (B [])])/\jC prog 90=some [(0,1),(1,1),(2,1),(3,2),(5,1),(6,1),(7,1),(8,1),(9,1),(10,1),(11,1)]/\bM prog 90 10=some 11/\dv prog 55=some (.agg #[.int Go.IntKind.i64 0,.string (B [])])/\jC prog 55=some [(0,1),(1,1)]/\kN prog 43 1=some (55,[(0,2)],[.int Go.IntKind.i64 0,.string (B [])])/\dv prog 119=some (.chan none)/\dv prog 120=some (.chan none):=by and_intros<;>kernel_rfl
@[go_sem] def asQ:dv prog 121=some (.chan none)/\dt prog 119=true/\cD prog 119=1/\dt prog 120=true/\cD prog 120=1/\dt prog 121=true/\cD prog 121=1/\dt prog 70=true/\dD prog 70=false/\bM prog 90 6=some 7/\dv prog 135=some (.agg #[.int Go.IntKind.i64 0,.int Go.IntKind.i64 0,.string (B []),.bool false,.bool false])/\dt prog 135=true:=by and_intros<;>kernel_rfl
@[go_sem] def Xu:dD prog 135=true:=ah
@[go_sem] def aes:ck prog 59=true:=ah
@[go_sem] def asR:cD prog 135=5/\bM prog 135 0=some 0/\bM prog 135 3=some 3/\dt prog 4=true/\dD prog 4=false/\cD prog 4=1/\bM prog 135 4=some 4/\bM prog 90 0=some 0/\dt prog 23=true/\dD prog 23=false/\uS prog 20=true/\dv prog 140=some (.agg #[.pointer none,.pointer none,.int Go.IntKind.u64 0]):=by and_intros<;>kernel_rfl
@[go_sem] def asT:dt prog 140=true/\dD prog 140=true/\cD prog 140=3/\dt prog 143=true/\dD prog 143=false/\lL prog 5 3=none/\tF prog 5 3=some Go.IntKind.i64/\dv prog 155=some (.agg #[.pointer none,.slice none 0 0])/\jC prog 155=some [(0,2)]/\iG prog 157=true/\iG prog 158=true/\iG prog 159=true:=by and_intros<;>kernel_rfl
@[go_sem] def aet:ck prog 65=true:=ah
@[go_sem] def aeu:ck prog 66=true:=ah
@[go_sem] def aev:ck prog 67=true:=ah
@[go_sem] def aew:ck prog 82=true:=ah
@[go_sem] def aex:ck prog 85=true:=ah
@[go_sem] def asU:kN prog 235 3=some (20,[(0,1),(1,1),(2,1)],[.nilIface,.nilIface,.nilIface])/\bM prog 155 0=some 0/\dv prog 116=some (.agg #[.map none,.int Go.IntKind.i64 0,.int Go.IntKind.i64 0,.int Go.IntKind.i64 0])/\jC prog 116=some [(0,1),(1,1),(2,1),(3,1)]/\bM prog 90 4=some 5/\dt prog 88=true/\dD prog 88=false/\cD prog 88=1/\qo prog 186=true/\bM prog 191 1=some 1/\bM prog 81 3=some 3/\dv prog 193=some (.agg #[.int Go.IntKind.i64 0,.string (B []),.string (B []),.bool false]):=by and_intros<;>kernel_rfl
@[go_sem] def Tq:dt prog 193=true:=ah
@[go_sem] def aer:ck prog 58=true:=ah
@[go_sem] def adV:ck prog 104=true:=ah
@[go_sem] def Xw:dD prog 45=false:=ah
@[go_sem] def asV:dD prog 193=true/\cD prog 193=4/\bM prog 191 0=some 0/\dt prog 189=true/\dD prog 189=false/\bM prog 87 0=some 0/\dv prog 217=some (.agg #[.int Go.IntKind.i64 0,.int Go.IntKind.i64 0,.int Go.IntKind.i64 0])/\jC prog 217=some [(0,1),(1,1),(2,1)]/\dt prog 45=true/\cD prog 45=1/\iW prog 235=some 1/\dt prog 20=true:=by and_intros<;>kernel_rfl
@[go_sem] def A7:ck prog 116=true:=ah
@[go_sem] def Q8:ck prog 117=true:=ah
@[go_sem] def asX:dD prog 20=false/\dv prog 157=some (.int Go.IntKind.i64 0)/\dv prog 158=some (.int Go.IntKind.i64 0)/\dv prog 159=some (.int Go.IntKind.i64 0)/\iG prog 237=true/\dv prog 237=some (.int Go.IntKind.i64 0)/\iG prog 238=true/\dv prog 238=some (.string (B []))/\qu prog 238=true/\iG prog 239=true/\bM prog 153 1=some 1/\dt prog 67=true:=by and_intros<;>kernel_rfl
@[go_sem] def alw:BX prog 9=true:=ah
@[go_sem] def Q9:ck prog 135=true:=ah
@[go_sem] def asY:dD prog 67=false/\cD prog 67=1/\iW prog 67=some 1/\lL prog 9 67=some 5/\dt prog 5=true/\dD prog 5=false/\lL prog 3 68=none/\tF prog 3 68=some Go.IntKind.u64/\bM prog 276 6=some 6/\dt prog 274=true/\dD prog 274=false/\bM prog 276 0=some 0:=by and_intros<;>kernel_rfl
@[go_sem] def asZ:bM prog 276 5=some 5/\dt prog 273=true/\dD prog 273=false/\dt prog 186=true/\dD prog 186=false/\cD prog 186=1/\bM prog 191 4=some 4/\jC prog 193=some [(0,1),(1,1),(2,1),(3,1)]/\bM prog 87 1=some 1/\jC prog 135=some [(0,1),(1,1),(2,1),(3,1),(4,1)]/\dv prog 289=some (.agg #[.string (B [])])/\jC prog 289=some [(0,1)]:=by and_intros<;>kernel_rfl
@[go_sem] def oj:ck prog 147=true:=ah
@[go_sem] def Rc:ck prog 148=true:=ah
@[go_sem] def adW:ck prog 150=true:=ah
@[go_sem] def as0:bM prog 135 1=some 1/\bM prog 289 0=some 0/\bM prog 135 2=some 2/\bM prog 217 0=some 0/\dt prog 215=true/\dD prog 215=false/\bM prog 217 1=some 1/\bM prog 217 2=some 2/\kN prog 235 4=some (20,[(0,1),(1,1),(2,1),(3,1)],[.nilIface,.nilIface,.nilIface,.nilIface])/\dv prog 293=some (.agg #[.int Go.IntKind.i64 0,.int Go.IntKind.i64 0,.string (B []),.bool false,.bool false,.string (B []),.int Go.IntKind.i64 0,.int Go.IntKind.i64 0])/\jC prog 293=some [(0,5),(5,1),(6,1),(7,1)]/\dv prog 296=some (.agg #[.pointer none]):=by and_intros<;>kernel_rfl
@[go_sem] def as1:dv prog 214=some (.pointer none)/\iG prog 297=true/\bM prog 296 0=some 0/\dt prog 214=true/\dD prog 214=false/\iG prog 298=true/\bM prog 153 0=some 0/\dt prog 151=true/\dD prog 151=false/\cD prog 151=1/\qo prog 151=true/\lL prog 151 137=none:=by and_intros<;>kernel_rfl
@[go_sem] def adX:ck prog 165=true:=ah
@[go_sem] def adY:ck prog 167=true:=ah
@[go_sem] def adZ:ck prog 169=true:=ah
@[go_sem] def ad0:ck prog 170=true:=ah
@[go_sem] def ad1:ck prog 172=true:=ah
@[go_sem] def ad2:ck prog 181=true:=ah
@[go_sem] def ad3:ck prog 184=true:=ah
@[go_sem] def as3:lL prog 137 151=none/\kN prog 49 1=some (9,[(0,1)],[.string (B [])])/\dt prog 75=true/\dD prog 75=false/\cD prog 75=1/\kN prog 75 1=some (77,[(0,1)],[.pointer none])/\bM prog 191 3=some 3/\dv prog 280=some (.agg #[.pointer none,.int Go.IntKind.i64 0,.string (B []),.string (B []),.bool false])/\dt prog 280=true/\cD prog 280=5/\bM prog 280 0=some 0/\bM prog 280 1=some 1:=by and_intros<;>kernel_rfl
@[go_sem] def Re:ck prog 188=true:=ah
@[go_sem] def ad4:ck prog 190=true:=ah
@[go_sem] def ad5:ck prog 191=true:=ah
@[go_sem] def ad6:ck prog 192=true:=ah
@[go_sem] def as5:dv prog 325=some (.agg #[])/\jC prog 325=some []/\iG prog 325=true/\kN prog 235 2=some (20,[(0,1),(1,1)],[.nilIface,.nilIface])/\dv prog 45=some (.nilIface)/\dt prog 291=true/\dD prog 291=false/\bM prog 293 0=some 0/\bM prog 293 1=some 5/\bM prog 293 2=some 6/\bM prog 293 3=some 7/\bM prog 276 2=some 2:=by and_intros<;>kernel_rfl
@[go_sem] def ad7:ck prog 210=true:=ah
@[go_sem] def as6:bM prog 276 1=some 1/\lL prog 3 342=none/\tF prog 3 342=some Go.IntKind.u64/\dv prog 342=some (.int Go.IntKind.u64 0)/\dt prog 342=true/\dD prog 342=false/\cD prog 342=1/\lL prog 68 3=none/\tF prog 68 3=some Go.IntKind.i64/\dv prog 3=some (.int Go.IntKind.i64 0)/\lL prog 126 5=none/\tF prog 126 5=some Go.IntKind.u8:=by and_intros<;>kernel_rfl
@[go_sem] def ad8:ck prog 220=true:=ah
@[go_sem] def ad9:ck prog 221=true:=ah
@[go_sem] def aea:ck prog 222=true:=ah
@[go_sem] def aeb:ck prog 223=true:=ah
@[go_sem] def s8:ck prog 228=true:=ah
@[go_sem] def aed:ck prog 229=true:=ah
@[go_sem] def Rf:ck prog 230=true:=ah
@[go_sem] def aee:ck prog 231=true:=ah
@[go_sem] def Kc:ck prog 237=true:=ah
@[go_sem] def aec:ck prog 225=true:=ah
@[go_sem] def as8:bM prog 193 3=some 3/\bM prog 193 0=some 0/\kN prog 78 1=some (193,[(0,4)],[.int Go.IntKind.i64 0,.string (B []),.string (B []),.bool false])/\dt prog 325=true/\cD prog 325=0/\iG prog 214=true/\kN prog 235 1=some (20,[(0,1)],[.nilIface])/\bM prog 90 5=some 6/\qo prog 185=true/\dv prog 276=some (.agg #[.pointer none,.int Go.IntKind.i64 0,.bool false,.int Go.IntKind.i64 0,.int Go.IntKind.i64 0,.map none,.map none,.int Go.IntKind.i64 0,.string (B []),.string (B []),.int Go.IntKind.i64 0])/\jC prog 276=some [(0,1),(1,1),(2,1),(3,1),(4,1),(5,1),(6,1),(7,1),(8,1),(9,1),(10,1)]/\kN prog 78 0=some (193,[],[]):=by and_intros<;>kernel_rfl
@[go_sem] def aef:ck prog 244=true:=ah
@[go_sem] def aeg:ck prog 245=true:=ah
@[go_sem] def aeh:ck prog 246=true:=ah
@[go_sem] def aei:ck prog 247=true:=ah
@[go_sem] def Rg:ck prog 267=true:=ah
@[go_sem] def aej:ck prog 268=true:=ah
@[go_sem] def aek:ck prog 269=true:=ah
@[go_sem] def ael:ck prog 270=true:=ah
@[go_sem] def aem:ck prog 271=true:=ah
@[go_sem] def aen:ck prog 272=true:=ah
@[go_sem] def aeo:ck prog 273=true:=ah
@[go_sem] def ata:kN prog 22 2=some (3,[(0,1),(1,1)],[.int Go.IntKind.i64 0,.int Go.IntKind.i64 0])/\bM prog 276 7=some 7/\dt prog 49=true/\dD prog 49=false/\cD prog 49=1/\iG prog 215=true/\bM prog 276 10=some 10/\bM prog 276 9=some 9/\bM prog 276 3=some 3/\bM prog 276 8=some 8/\jC prog 296=some [(0,1)]/\iG prog 296=true:=by and_intros<;>kernel_rfl
@[go_sem] def aep:ck prog 286=true:=ah
@[go_sem] def Kd:ck prog 289=true:=ah
@[go_sem] def atc:iG prog 185=true/\dv prog 191=some (.agg #[.nilIface,.int Go.IntKind.i64 0,.string (B []),.pointer none,.bool false])/\jC prog 191=some [(0,1),(1,1),(2,1),(3,1),(4,1)]/\bM prog 193 1=some 1/\bM prog 193 2=some 2/\qo prog 77=true/\bM prog 116 1=some 1/\bM prog 116 2=some 2/\dv prog 81=some (.agg #[.string (B []),.slice none 0 0,.int Go.IntKind.i64 0,.int Go.IntKind.i64 0,.slice none 0 0])/\jC prog 81=some [(0,1),(1,1),(2,1),(3,1),(4,1)]/\bM prog 116 3=some 3/\kN prog 79 1=some (186,[(0,1)],[.pointer none]):=by and_intros<;>kernel_rfl
@[go_sem] def atd:bM prog 276 4=some 4/\jC prog 280=some [(0,1),(1,4)]/\lL prog 21 129=none/\tF prog 21 129=some Go.IntKind.u32/\lL prog 21 5=none/\tF prog 21 5=some Go.IntKind.u8/\bM prog 191 2=some 2:=by and_intros<;>kernel_rfl
end
section
open Go.Conc
open Go.ConcN (sumTo upd sumTo_upd upd_ne upd_same)
def ua(au2:Nat->Prop):Loc->Prop:=λl=>∃a:Addr,l=.cell a/\au2 a.block
variable {au2:Nat->Prop}{n:Nat}{e:Event}
def acR(h:iD au2 n e):EvL (ua au2) n e:=by
 obtain⟨loc,wr,sy⟩:=e;unfold iD at h
 cases loc with
 |cell a=>
  obtain⟨h1,h2⟩:¬au2 a.block/\a.block<n:=h;refine⟨λx hx hs=>?_,al,al,?_⟩
  ·obtain⟨b,hb,hj⟩:=hs
   have:x.loc=.cell a:=by cases sy<;>simp[MemAct.ofEvent,MemAct.touch?]at hx<;>subst hx<;>rfl
   rw[this]at hb;cases hb
   exact absurd hj h1
  ·cases sy<;>cases wr<;>exact h2
 |obj r=>
  obtain⟨h1,h2⟩:¬au2 r/\r<n:=h;refine⟨λx hx hs=>?_,al,al,?_⟩
  ·obtain⟨b,hb,hj⟩:=hs;exfalso
   cases sy<;>cases wr<;>simp[MemAct.ofEvent,MemAct.touch?]at hx<;>subst hx<;>cases hb
  ·cases sy<;>cases wr<;>exact h2
 |output=>exact h.elim
 |goroutines=>exact h.elim
 |mark m=>
  have h:BZ m=true:=h
  cases m<;>first|cases h|skip
  ·exact⟨λx hx=>by simp[MemAct.ofEvent,MemAct.touch?]at hx,al,al,trivial⟩
  ·exact⟨λx hx=>by simp[MemAct.ofEvent,MemAct.touch?]at hx,al,al,trivial⟩
def pO(Q:Loc->Prop)(t:Trace):Prop:=∀op∈t,∀a,Q (.cell a)->op.act≠.mark (.release a)
variable {Q:Loc->Prop}{t:Trace}
def pO.app{u:Trace}(h:pO Q t)(k:∀op∈u,∀a,op.act≠.mark (.release a)):pO Q (t++u):=λop aS=>(Array.mem_append.1 aS).elim (h op) (λhu a _=>k op hu a)
def BV(h:∀a,e.loc≠.mark (.release a)):∀a,MemAct.ofEvent e≠.mark (.release a):=by
 intro a ha;obtain⟨loc,wr,sy⟩:=e
 cases loc<;>cases wr<;>cases sy<;>simp[MemAct.ofEvent]at ha<;>subst ha<;>exact h a rfl
def MG(h:e.mute=true):∀a,MemAct.ofEvent e≠.mark (.release a):=by
 refine BV λa ha=>?_;obtain⟨loc,wr,sy⟩:=e
 cases ha
 simp[Event.mute]at h
def alR(h:iD au2 n e):∀a,e.loc≠.mark (.release a):=by intro a ha;unfold iD at h;rw[ha]at h;exact absurd h (by simp[BZ])
def pO.events(h:pO Q t){g:Nat}{fn:FuncId}{pos:String}{es:Array Event}(k:∀e∈es,∀a,MemAct.ofEvent e≠.mark (.release a)):pO Q (t++MemOp.ofEvents g fn pos es):=
 h.app λop aS=>by obtain⟨e,he,rfl⟩:=Conc.mem_ofEvents aS;exact k e he
structure lQ (W w:World):Prop where
 os:w.os=W.os
 tape:w.tape=W.tape
 output:w.output=W.output
variable {W w:World}
def lQ.kept{w':World}(h:lQ W w)(k:Kept au2 w w'):lQ W w':=⟨k.os.trans h.os,k.tape.trans h.tape,k.output.trans h.output⟩
def lQ.at(h:lQ W w)(d:Nat):lQ W (w.at d):=⟨h.os,h.tape,h.output⟩
def yT(P:Program)(W:World)(g:Goroutine)(U:Hp)(m:Machine)(T:Trace):Prop:=
 ∃gs w sl q au2,m=crowd gs w sl/\gs[0]? =some g/\Leavers P T gs q/\Past (ua au2) w.heap.size T/\cR au2 w U/\lQ W w/\pO (λ_=>False) T
def cR.at{U:Hp}(h:cR au2 w U)(d:Nat):cR au2 (w.at d) U:=⟨h.heap,h.fP,h.low⟩
variable {P:Program}{g:Goroutine}{U:Hp}{X:Goroutine->Hp->Prop}
def VH(hX:gZ P true g U X){gs:Array Goroutine}{sl bE:Option (Nat×Nat)}{q:Nat->Nat}{d:Nat}(h0:gs[0]? =some g)(hL:Leavers P t gs q)(hP:Past (ua au2) w.heap.size t)(hS:cR au2 w U)(hF:lQ W w)(hN:pO (λ_=>False) t)(bw:stepT P (crowd gs w sl)=runT P (crowd gs (w.at d) bE) 0):∃N m' t' g' ae,runNT P N (crowd gs w sl) t=(.next m',t')/\yT P W g' ae m' t'/\g'.status=.running/\X g' ae:=by
 have hs:=hX au2 (w.at d) (hS.at d)
 cases hgo:stepG P true g (w.at d)with
 |go a' w' es=>
  rw[hgo,goes_go]at hs;obtain⟨ae,xJ,hK,he,eX,hx⟩:=hs;have eY:=runT_crowd_go (P:=P) (sl:=bE) (i:=0) h0 (show stepG P (0==0) g (w.at d)=_ from hgo);have bl:0<gs.size:=(Array.getElem?_eq_some_iff.1 h0).1
  have kD:runNT P 1 (crowd gs w sl) t=(.next (crowd ((gs.map (woken P g a' w')).setIfInBounds 0 a') w' bE),t++MemOp.ofEvents 0 g.frame.fn g.frame.place es):=by simp only[runNT,bw,eY]
  refine⟨1,_,_,a',ae,kD,⟨_,w',bE,q,au2,rfl,Array.getElem?_setIfInBounds_self_of_lt (aW bl),⟨λj x hj hx=>?_,λj hj=>?_⟩,(hP.mono hK.um).own (λe h=>acR (he e h)),xJ,(hF.at d).kept hK,hN.events (λe h=>BV (alR (he e h)))⟩,eX,hx⟩
  ·have aE:0≠j:=aa;rw[Array.getElem?_setIfInBounds_ne aE,Array.getElem?_map]at hx;obtain⟨z,hz,rfl⟩:=Option.map_eq_some_iff.1 hx;have hq:=hL.old j z hj hz;rw[woken_quitsD hq,Deaf_other t aa _ (λop aS=>by obtain⟨e,_,rfl⟩:=Conc.mem_ofEvents aS;rfl)];exact hq
  ·rw[Deaf_other t (g':=0) (by simp at hj;omega) _ (λop aS=>by obtain⟨e,_,rfl⟩:=Conc.mem_ofEvents aS;rfl)];exact hL.above j (aW hj)
 |_=>rw[hgo]at hs;exact hs.elim
def apU(kD:g.status=.running)(hX:gZ P true g U X):
 ∀(M:Nat) (gs:Array Goroutine) (w:World) (sl:Option (Nat×Nat)) (t:Trace) (q:Nat->Nat) (au2:Nat->Prop),sumTo gs.size q<=M->gs[0]? =some g->Leavers P t gs q->Past (ua au2) w.heap.size t->cR au2 w U->lQ W w->pO (λ_=>False) t->
  ∃N m' t' g' ae,runNT P N (crowd gs w sl) t=(.next m',t')/\yT P W g' ae m' t'/\g'.status=.running/\X g' ae:=by
 intro M
 induction M with
 |zero=>
  intro gs w sl t q au2 hM h0 hL hP hS hF hN
  have Ds:∀g∈gs,awake g:=by
   intro y hy;obtain⟨i,hi,rfl⟩:=Array.mem_iff_getElem.1 hy;rcases Nat.eq_zero_or_pos i with rfl|nM
   ·have:gs[0]=g:=by simpa[Array.getElem?_eq_getElem hi]using h0
    rw[this];exact awake_of (.inl kD)
   ·exact awake_of ((hL.old i _ nM (Array.getElem?_eq_getElem hi)).status.elim .inl λx=>.inr (.inr x))
  obtain⟨i,y,d,bE,hi,hg,bw⟩:=crowd_pick (P:=P) (w:=w) (sl:=sl) Ds ⟨0,g,h0,kD⟩;rcases Nat.eq_zero_or_pos i with rfl|nM
  ·obtain rfl:y=g:=by rw[h0]at hi;exact(Option.some.inj hi).symm
   exact VH hX h0 hL hP hS hF hN bw
  ·have hq:=hL.old i y nM hi;have bl:i<gs.size:=(Array.getElem?_eq_some_iff.1 hi).1;have:=Go.ConcN.le_sumTo (f:=q) bl;have lY:q i=0:=aa;rw[lY]at hq;rw[hq.1]at hg;cases hg
 |succ M ih=>
  intro gs w sl t q au2 hM h0 hL hP hS hF hN
  have Ds:∀g∈gs,awake g:=by
   intro y hy;obtain⟨i,hi,rfl⟩:=Array.mem_iff_getElem.1 hy;rcases Nat.eq_zero_or_pos i with rfl|nM
   ·have:gs[0]=g:=by simpa[Array.getElem?_eq_getElem hi]using h0
    rw[this];exact awake_of (.inl kD)
   ·exact awake_of ((hL.old i _ nM (Array.getElem?_eq_getElem hi)).status.elim .inl λx=>.inr (.inr x))
  obtain⟨i,y,d,bE,hi,hg,bw⟩:=crowd_pick (P:=P) (w:=w) (sl:=sl) Ds ⟨0,g,h0,kD⟩;rcases Nat.eq_zero_or_pos i with rfl|nM
  ·obtain rfl:y=g:=by rw[h0]at hi;exact(Option.some.inj hi).symm
   exact VH hX h0 hL hP hS hF hN bw
  ·have hq:=hL.old i y nM hi;have qU:(i==0)=false:=by simp;omega
   have bl:i<gs.size:=(Array.getElem?_eq_some_iff.1 hi).1
   cases lY:q i with
   |zero=>rw[lY]at hq;rw[hq.1]at hg;cases hg
   |succ k=>
    rw[lY]at hq;rcases hq with⟨hf,_⟩|⟨_,g',es,hm,l7,bz⟩
    ·rw[hf]at hg;cases hg
    have eY:=runT_crowd_go (P:=P) (sl:=bE) (i:=i) hi (by rw[qU];exact l7 (w.at d));have gQ:((gs.map (woken P y g' (w.at d))).setIfInBounds i g').size=gs.size:=al
    have LD:sumTo gs.size (upd q i k)+(k+1)=sumTo gs.size q+k:=by have:=sumTo_upd q k id bl;simpa[lY]using this
    have uo:((gs.map (woken P y g' (w.at d))).setIfInBounds i g')[0]? =some g:=by
     rw[Array.getElem?_setIfInBounds_ne aa,Array.getElem?_map,h0];simp only[Option.map_some,Option.some.injEq];unfold woken;split
     ·exact again_running _ (.inl kD)
     ·exact rfl
    have Dj:Leavers P (t++MemOp.ofEvents i y.frame.fn y.frame.place es) ((gs.map (woken P y g' (w.at d))).setIfInBounds i g') (upd q i k):=by
     refine⟨λj x hj hx=>?_,λj hj=>?_⟩
     ·by_cases e:j=i
      ·subst e;rw[Array.getElem?_setIfInBounds_self_of_lt (aW bl)]at hx;obtain rfl:=Option.some.inj hx;rw[upd_same,Deaf_own];exact bz
      ·rw[Array.getElem?_setIfInBounds_ne (λz=>e z.symm),Array.getElem?_map]at hx;obtain⟨z,hz,rfl⟩:=Option.map_eq_some_iff.1 hx;have SM:=hL.old j z hj hz;rw[woken_quitsD SM,upd_ne q k e,Deaf_other t (λz=>e z.symm) _ (λop aS=>by obtain⟨e,_,rfl⟩:=Conc.mem_ofEvents aS;rfl)];exact SM
     ·rw[Deaf_other t (g':=i) (by simp at hj;omega) _ (λop aS=>by obtain⟨e,_,rfl⟩:=Conc.mem_ofEvents aS;rfl)];exact hL.above j (aW hj)
    obtain⟨N,m',t',s9,ae,hr,nC,eX,hx⟩:=ih ((gs.map (woken P y g' (w.at d))).setIfInBounds i g') (w.at d) bE (t++MemOp.ofEvents i y.frame.fn y.frame.place es) (upd q i k) au2 (by rw[gQ];omega) uo Dj (hP.mute aa hm) (hS.at d) (hF.at d) (hN.events λe he=>MG (hm e he));exact⟨N+1,m',t',s9,ae,by simp only[runNT,bw,eY];exact hr,nC,eX,hx⟩
def solo(P:Program)(W:World):Env P where
 main:=true
 st:=yT P W
 iQ:=by rintro g U J m T ⟨gs,w,sl,q,au2,rfl,h0,hL,hP,hS,hF,hN⟩ hle;exact⟨gs,w,sl,q,au2,rfl,h0,hL,hP,hS.iQ hle,hF,hN⟩
 own:=by rintro g U m T X ⟨gs,w,sl,q,au2,rfl,h0,hL,hP,hS,hF,hN⟩ hr hX;exact apU hr hX (sumTo gs.size q) gs w sl T q au2 (Nat.le_refl _) h0 hL hP hS hF hN
def apS(g:Goroutine)(W:World):yT P W g ⟨λb=>W.heap[b]?⟩ (crowd #[g] W none) #[]:=by
 refine⟨#[g],W,none,λ_=>0,λ_=>False,rfl,rfl,leavers_one P g,?_,⟨λh=>h,λ_ h=>h.elim,λ_ h=>h.elim⟩,⟨rfl,rfl,rfl⟩,λop aS=>by simp at aS⟩
 have e:ua (λ_=>False)=λ_=>False:=by
  funext l;apply propext;constructor
  ·rintro⟨_,_,h⟩;exact h
  ·exactλh=>h.elim
 rw[e];exact past_nil.mono (Nat.zero_le _)
def apT{f:FuncId}{fn:Func}{Iy:Tmp}{args:Array Value}{R:Value->Hp->Prop}{Post:Value->World->Prop}(hi:P.inits.idxOf? f=none)(rV:P.funcs[f]? =some fn)(fp:fn.results= #[.tmp Iy])(h:ay (solo P W) f args ⟨λb=>W.heap[b]?⟩ (λe ae=>∃v,e=.returned v/\R v ae))(ahb:∀v ae au2 w',R v ae->cR au2 w' ae->lQ W w'->Post v w'):
 ∃N last o w' t',runNT P (N+1) (Conc.solo (G (Frame.enter P f args .normal) []) W) #[]=(.ended o w',t')/\runN P N (Conc.solo (G (Frame.enter P f args .normal) []) W)=.next last/\step P last=.ended o w'/\Conc.Good P Post last o w' t':=by
 obtain⟨N,m',T',g',ae,kD,⟨gs,w,sl,q,au2,rfl,h0,hL,hP,hS,hF,_⟩,e,fr,rfl,Bp,hl,v,rfl,hR⟩:=h [] _ _ (apS _ W);obtain⟨hm,hd,hk,C6,DG,hr⟩:=hl;obtain rfl:C6=fn:=by rw[Bp,rV]at DG;exact(Option.some.inj DG).symm
 have hv:fr.tmps.getD Iy undef=v:=by have:wpS P (results C6 fr.tmps) (λv' gA=>v'=v/\gA=ae) (λ_ _=>False) ae:=hr;simp[results,fp,bt]at this;simpa using this
 have gL:∀w,stepG P true (G fr []) w=.ended (.done v) w #[]:=by
  intro w
  have hrt:(results C6 fr.tmps).runT P w #[]=(.ok v w,#[]):=by rw[Sem.runT_eq,results_tmp fp,<-hv];simp[results,fp]
  simp only[G,stepG,hm,unwind,hd,DG,hrt,doReturn,hk];simp[GStep.after,seen,Bp,hi]
 obtain⟨N',last,o,w',t',e1,e2,e3,e4⟩:=beside_ends (P:=P) (D:=λ_ _ _=>False) (Shun:=ua au2) (B:=w.heap.size) (Post:=Post) (sl:=sl) (n:=0) (λ_ _ _ h=>h.elim) h0 hL hP
  (λw₁ LQ=>by
   obtain⟨d,rfl⟩:=LQ
   exact⟨rfl,v,#[],gL _,al,ahb v ae au2 _ hR (hS.at d) (hF.at d)⟩)
 rw[solo_eq_crowd];refine⟨N+N',last,o,w',t',?_,?_,e3,e4⟩
 ·rw[Nat.add_assoc,runNT_add,kD];exact e1
 ·rw[runN_add,<-runNT_fst P _ _ #[],kD];exact e2
end
section
open Go.Proofs
def lT:List PanicEntry:=[{v:=.iface 325 (.agg #[]),recovered:=false}]
variable {E:Env prog}{U:Hp}{b off:Nat}{c:List Value}{e:TypeId}{s:List UInt8}{n:Int}
def NA(hb:U.f b=some (.cells c.toArray e (0,0)))(ho:c[off]? =some (.string (B s)))(h0:0<=n)(hn:n<=s.length):
 ay E 148 #[.pointer (some ⟨b,off,none⟩),.int .i64 n] U λe' ae=>e'=.returned (.string (B (s.take n.toNat)))/\ae=U.set b (.cells (c.set off (.string (B (s.drop n.toNat)))).toArray e):=by
 have bl:off<c.length:=(List.getElem?_eq_some_iff.1 ho).1;have D3:¬((s.length:Int)<n):=aa;have hl:(s.length-n.toNat)=(s.drop n.toNat).length:=al;refine aX func148 ntmps148 results148 λQ aD an aA=>?_;simp only[go_sem,seval,hb,ho,h0,hn,D3,bl];refine an aI ao ⟨?_,?_⟩
 ·simp only[go_sem,seval,Nat.sub_zero]
 ·simp only[hl,List.take_length]
variable {z:Nat×Nat}
def VZ(hb:U.f b=some (.cells c.toArray e z))(ho:c[off]? =some (.string (B s)))(hn:(s.length:Int)<n):
 ay E 148 #[.pointer (some ⟨b,off,none⟩),.int .i64 n] U λe' ae=>e'=.panicked lT/\ae=U:=by
 refine aX func148 ntmps148 results148 λQ aD an aA=>?_;simp only[go_sem,seval,hb,ho,hn];exact aA _ _ _ _ ao ⟨rfl,rfl⟩
def num(l:List UInt8):Nat:=l.foldl (λn b=>n*256+b.toNat) 0
def Ux(l:List UInt8)(b:UInt8):num (l++[b])=num l*256+b.toNat:=by simp[num]
def alX(l:List UInt8):∀a,l.foldl (λn b=>n*256+b.toNat) a<(a+1)*256^l.length:=by
 induction l with
 |nil=>intro a;simp
 |cons b l ih=>
  intro a;have h1:=ih (a*256+b.toNat);have h2:=b.toNat_lt;have h3:(a*256+b.toNat+1)*256^l.length<=((a+1)*256)*256^l.length:=Nat.mul_le_mul_right _ aa;simp only[List.foldl_cons,List.length_cons,Nat.pow_succ];have h4:(a+1)*(256^l.length*256)=((a+1)*256)*256^l.length:=by rw[Nat.mul_comm (256^l.length),Nat.mul_assoc]
  omega
def Uw(l:List UInt8):num l<256^l.length:=by have:=alX l 0;simpa[num]using this
def alZ(l:List UInt8)(i:Nat)(h:i<l.length):num (l.take (i+1))=num (l.take i)*256+(l.getD i 0).toNat:=by rw[List.take_succ_eq_append_getElem h,Ux,List.getD_eq_getElem?_getD,List.getElem?_eq_getElem h,Option.getD_some]
def wrap64(h: -9223372036854775808<=n)(h':n<=9223372036854775807):IntKind.wrap .i64 n=n:=by rw[IntKind.wrap_i64];omega
def apA{n:Nat}{m:Nat}(hm:m<256)(h:n<2^55):HU .i64 (Ce .i64 n 8) (IntKind.wrap .i64 (m:Int))=((n*256+m:Nat):Int):=by
 unfold HU Ce;have e0:IntKind.i64.bits=64:=rfl
 have e1:((n:Int)*2^(min (8:Int).toNat IntKind.i64.bits))=((n*256:Nat):Int):=by rw[e0];simp
 rw[e1,wrap64 (n:=((n*256:Nat):Int)) aa aa,wrap64 (n:=(m:Int)) aa aa,e0];rw[BitVec.ofInt_natCast,BitVec.ofInt_natCast,BitVec.toNat_or,BitVec.toNat_ofNat,BitVec.toNat_ofNat,Nat.mod_eq_of_lt aa,Nat.mod_eq_of_lt aa];have:=Nat.shiftLeft_add_eq_or_of_lt (b:=m) (i:=8) aa n;rw[Nat.shiftLeft_eq]at this;rw[show n*256=n*2^8 by rfl,<-this];exact wrap64 aa aa
variable {o:Obj}
def HB(h:U.f b=none):U.le (U.set b o):=by
 intro x ox hx;have:x≠b:=by intro e;subst e;rw[h]at hx;cases hx
 rw[Hp.aO o this];exact hx
variable {w:Nat}
def EU(hb:U.f b=some (.cells c.toArray e (0,0)))(ho:c[off]? =some (.string (B s)))(hw:w<=7)(hn:w<=s.length):
 ay E 147 #[.pointer (some ⟨b,off,none⟩),.int .i64 w] U λe' ae=>e'=.returned (.int .i64 (num (s.take w)))/\ae=U.set b (.cells (c.set off (.string (B (s.drop w)))).toArray e):=by
 refine aX func147 ntmps147 results147 λQ aD an aA=>?_;refine ag ?_;refine aT (NA hb ho aa aa) ?_;refine ag ?_;refineλnb pad z wE=>?_;refine ag ?_
 refine di (λm I ds J=>ds=[]/\J=(U.set b (.cells (c.set off (.string (B (s.drop w)))).toArray e)).set nb (.cells (dG (s.take w)++List.replicate pad (Value.int .u8 0)).toArray 5 z)/\∃i,i<=w/\m=w-i/\
  I 12=.int .i64 i/\I 11=.int .i64 w/\I 10=.slice (some ⟨nb,0,none⟩) w (w+pad)/\I 4=.int .i64 (num (s.take i))) w ?_ ?_
 ·refine⟨rfl,?_,0,Nat.zero_le _,rfl,?_⟩
  ·exact au
  ·have hm:min w s.length=w:=aa;simp only[go_sem,seval,num,List.length_take,hm,List.foldl_nil,true_and]
   try rfl
 ·rintro m I ds J X ⟨rfl,rfl,i,hi,rfl,o0,bT,bC,h4⟩ hX;rcases Nat.lt_or_ge i w with bl|xP
  ·have c1:(i:Int)<w:=aa;have c2:(0:Int)<=i:=aa;have c3:i<(s.take w).length:=by simp;omega
   simp only[go_sem,seval,o0,bT,bC,h4,c1,c2,aal c3];refine hX (w-(i+1)) _ _ _ _ aa ⟨rfl,rfl,i+1,aa,rfl,?_⟩ ao;have h1:=Uw (s.take i);have h2:(s.take i).length=i:=by simp;omega
   have h3:(256:Nat)^i<=256^6:=Nat.pow_le_pow_right aa aa
   have h4:pR (s.take w) i=(((s.getD i 0).toNat:Nat):Int):=by simp only[pR,List.getD_eq_getElem?_getD,List.getElem?_take,bl,if_true]
   have h5:=(s.getD i 0).toNat_lt;rw[h2]at h1;refine bR bT bC h4 ?_;rw[apA aa aa,alZ s i aa,wrap64 aa aa];exact⟨rfl,rfl⟩
  ·have c1:¬(i:Int)<w:=aa;refine bR o0 bT c1 ?_;refine an aI ?_ ⟨?_,rfl⟩
   ·exact HB wE
   ·have:i=w:=aa;subst this;exact aQ h4
def cH{m:Int}(e:n=m:=by omega)(h: -9223372036854775808<=n:=by omega)(h1:n<=9223372036854775807:=by omega):IntKind.wrap .i64 n=m:=(wrap64 h h1).trans e
def fQ(i:Nat)(h:i<=9223372036854775806:=by omega):IntKind.wrap .i64 ((i:Int)+1)=((i+1:Nat):Int):=cH
def fu(w:Nat)(s:List UInt8):Option (Nat×List UInt8):=if w<=s.length then some (num (s.take w),s.drop w)else none
def yv(n:Nat)(s:List UInt8):Option (List UInt8×List UInt8):=if n<=s.length then some (s.take n,s.drop n)else none
def jB(s:List UInt8):Option (List UInt8×List UInt8):=(fu 1 s).bind λr=>yv r.1 r.2
def yu(s:List UInt8):Option (Bool×List UInt8):=(fu 1 s).bind λr=>if r.1<=1 then some (decide (r.1=1),r.2)else none
def rJ{α:Type}(U:Hp)(b off:Nat)(c:List Value)(e:TypeId)(f:α->Value)(r:Option (α×List UInt8))(e':Fin)(ae:Hp):Prop:=
 match r with
 |some (v,rest)=>e'=.returned (f v)/\ae=U.set b (.cells (c.set off (.string (B rest))).toArray e)
 |none=>e'=.panicked lT/\∃l,ae=U.set b (.cells (c.set off (.string (B l))).toArray e)
variable {P:Program}{E:Env P}{I:av}{ds:List Deferred}{dst:Option Tmp}{nx:av->List Deferred->Hp->Prop}{pn:List PanicEntry->Hp->Prop}{f:FuncId}{args:Array Value}{J:Hp}
def PG{ch:List PanicEntry}(hg:ck P f=true)(h:ay E f args U λe ae=>e=.panicked ch/\ae=J)(k:pn ch J):kx E f args U dst I ds nx pn:=
 Gc hg (h.mono λe ae ⟨h1,h2⟩=>by subst h1;subst h2;exact k)
def CK{α:Type}{fv:α->Value}{r:Option (α×List UInt8)}(hg:ck P f=true)(h:ay E f args U (rJ U b off c e fv r))(k:∀v rest,r=some (v,rest)->nx (aB I dst (fv v)) ds (U.set b (.cells (c.set off (.string (B rest))).toArray e)))(kp:r=none->∀l,pn lT (U.set b (.cells (c.set off (.string (B l))).toArray e))):kx E f args U dst I ds nx pn:=by
 refine Gc hg (h.mono λe' ae hr=>?_)
 cases r with
 |none=>obtain⟨rfl,l,rfl⟩:=hr;exact kp rfl l
 |some p=>obtain⟨v,rest⟩:=p;obtain⟨rfl,rfl⟩:=hr;exact k v rest rfl
variable {v:Value}
def PU(hb:U.f b=some (.cells c.toArray e (0,0)))(ho:c[off]? =some v):U.set b (.cells (c.set off v).toArray e)=U:=by
 have:c.set off v=c:=by
  apply List.ext_getElem?;intro i;by_cases h:off=i
  ·subst h;rw[List.getElem?_set_self (List.getElem?_eq_some_iff.1 ho).1,ho]
  ·rw[List.getElem?_set_ne h]
 rw[this];exact Hp.Ii hb
variable {E:Env prog}
def al0(hb:U.f b=some (.cells c.toArray e (0,0)))(ho:c[off]? =some (.string (B s)))(hn:s.length<w):
 ay E 147 #[.pointer (some ⟨b,off,none⟩),.int .i64 w] U λe' ae=>e'=.panicked lT/\ae=U:=by
 refine aX func147 ntmps147 results147 λQ aD an aA=>?_;refine ag ?_;refine PG Rc (VZ hb ho aa) ?_;exact aA _ _ _ _ ao ⟨rfl,rfl⟩
def oG(hb:U.f b=some (.cells c.toArray e (0,0)))(ho:c[off]? =some (.string (B s)))(hw:w<=7):
 ay E 147 #[.pointer (some ⟨b,off,none⟩),.int .i64 w] U (rJ U b off c e (λn:Nat=>.int .i64 n) (fu w s)):=by
 by_cases h:w<=s.length
 ·simp only[fu,h,if_true];exact EU hb ho hw h
 ·simp only[fu,h,if_false];exact(al0 hb ho aa).mono λe' ae ⟨h1,h2⟩=>⟨h1,s,by rw[h2,PU hb ho]⟩
variable {n:Nat}
def aqV(hb:U.f b=some (.cells c.toArray e (0,0)))(ho:c[off]? =some (.string (B s))):
 ay E 148 #[.pointer (some ⟨b,off,none⟩),.int .i64 n] U (rJ U b off c e (λl=>.string (B l)) (yv n s)):=by
 by_cases h:n<=s.length
 ·simp only[yv,h,if_true];refine(NA (n:=n) hb ho aa aa).mono λe' ae ⟨h1,h2⟩=>?_;simp only[Int.toNat_natCast]at h1 h2;exact⟨h1,h2⟩
 ·simp only[yv,h,if_false];exact(VZ hb ho aa).mono λe' ae ⟨h1,h2⟩=>⟨h1,s,by rw[h2,PU hb ho]⟩
def tU(hb:U.f b=some (.cells c.toArray e (0,0)))(ho:c[off]? =some (.string (B s))):
 ay E 228 #[.pointer (some ⟨b,off,none⟩)] U (rJ U b off c e (λl=>.string (B l)) (jB s)):=by
 have bl:off<c.length:=(List.getElem?_eq_some_iff.1 ho).1;refine aX func228 ntmps228 results228 λQ aD an aA=>?_;refine ag ?_;refine CK oj (oG hb ho (w:=1) aa) (λn rest hr=>?_) (λhr l=>?_)
 ·refine ag ?_;refine CK Rc (aqV (n:=n) (s:=rest) (e:=e) (off:=off) (c:=c.set off (.string (B rest))) aZ (List.getElem?_set_self bl)) (λv oJ eX=>?_) (λeX l=>?_)
  ·refine ag ?_;refine an aI ao ?_;simp only[rJ,jB,hr,Option.bind_some,eX,go_sem,seval,List.set_set]
  ·refine aA _ _ _ _ ao ?_;simp only[rJ,jB,hr,Option.bind_some,eX];exact⟨trivial,l,by simp only[Hp.set_set,List.set_set]⟩
 ·refine aA _ _ _ _ ao ?_;simp only[rJ,jB,hr,Option.bind_none];exact⟨trivial,l,rfl⟩
def J4(hb:U.f b=some (.cells c.toArray e (0,0)))(ho:c[off]? =some (.string (B s))):
 ay E 289 #[.pointer (some ⟨b,off,none⟩)] U (rJ U b off c e (λl=>.bool l) (yu s)):=by
 refine aX func289 ntmps289 results289 λQ aD an aA=>?_;refine ag ?_;refine CK oj (oG hb ho (w:=1) aa) (λn rest hr=>?_) (λhr l=>?_)
 ·rcases Nat.lt_or_ge 1 n with h|h
  ·have h1:(1:Int)<n:=aa;have h2:¬n<=1:=aa;refine aJ h1 ?_;refine aA _ _ _ _ ao ?_;simp only[rJ,yu,hr,Option.bind_some,h2,if_false];exact⟨rfl,rest,rfl⟩
  ·have h1:¬(1:Int)<n:=aa;refine aJ h1 ?_;refine an aI ao ?_;simp only[rJ,yu,hr,Option.bind_some,h,go_sem,seval];have:((n:Int)=1)=(n=1):=by apply propext;omega
   simp only[this]
 ·refine aA _ _ _ _ ao ?_;simp only[rJ,yu,hr,Option.bind_none];exact⟨trivial,l,rfl⟩
def Qr(hb:U.f b=some (.cells c.toArray e z))(ho:c[off]? =some (.string (B []))):
 ay E 229 #[.pointer (some ⟨b,off,none⟩)] U λe' ae=>e'=.returned (.tuple #[])/\ae=U:=by
 refine aX func229 ntmps229 results229 λQ aD an aA=>?_;refine bu hb ho ?_;exact aD dA ao ⟨rfl,rfl⟩
def acF(hb:U.f b=some (.cells c.toArray e z))(ho:c[off]? =some (.string (B s)))(hs:s≠[]):
 ay E 229 #[.pointer (some ⟨b,off,none⟩)] U λe' ae=>e'=.panicked lT/\ae=U:=by
 refine aX func229 ntmps229 results229 λQ aD an aA=>?_;refine bR hb ho hs ?_;exact aA _ _ _ _ ao ⟨rfl,rfl⟩
variable {c:Array Value}{H:Halt->Hp->Prop}
def Vq(hb:U.f b=some (.cells c e z)){Q:Addr->Hp->Prop}(h:Q ⟨b,off,none⟩ U):wpS P (Conv.seenAt ⟨b,off,none⟩) Q H U:=by
 simp only[Conv.seenAt,viewAt,aG,Aw];refine⟨by simp[hb],?_⟩;have:U.shape? b=some (e,c.size):=by simp[Hp.shape?,hb]
 rw[this];exact h
variable {E:Env P}{ty:TypeId}{pos:String}{af:Array Edge}{g:Option (Nat×Bool)}{s d t:TypeId}{x:Operand}
def aq2(hs:P.underlying s=some (.pointer t))(hd:P.underlying d=some .unsafePointer)(hx:ak I x=.pointer (some ⟨b,off,none⟩))(hb:U.f b=some (.cells c e z))(ho:off<c.size)(hz:0<cD P t)(h:nx (aB I dst (.pointer (some ⟨b,off,none⟩))) ds U):wpOp E ⟨dst,.convert s d x,ty,pos,af,g⟩ I ds U nx pn:=by
 have hi:∃i,P.info? t=some i/\i.size≠0:=by
  unfold cD at hz;split at hz
  ·rename_i i hi;exact⟨i,hi,aa⟩
  ·cases hz
 obtain⟨i,hi,aE⟩:=hi;unfold wpOp;simp only[execOp,convert,aG,eu,hs,hd,hx,Conv.unsafePointer];refine Vq hb ?_;simp only[cellsIn];refine⟨by simp[hb],?_⟩;have:U.shape? b=some (e,c.size):=by simp[Hp.shape?,hb]
 rw[this];simp only[bt,sizeOf,aG,gl,hi];have key:(decide (i.size=0)||(decide (off>=c.size)&&true))=false:=by simp[aE];omega
 show wpS P (if(decide (i.size=0)||(decide (off>=c.size)&&true))=true then _ else _) _ _ _;rw[key];exact h
def adD(hs:P.underlying s=some .unsafePointer)(hd:P.underlying d=some (.pointer t))(hx:ak I x=.pointer (some ⟨b,off,none⟩))(hb:U.f b=some (.cells c e z))(hl:liesAt P P.depth e (c.size/P.cellsOf e) off t 1=true)(hz:0<cD P t)(h:nx (aB I dst (.pointer (some ⟨b,off,none⟩))) ds U):wpOp E ⟨dst,.convert s d x,ty,pos,af,g⟩ I ds U nx pn:=by
 have hi:∃i,P.info? t=some i/\i.size≠0:=by
  unfold cD at hz;split at hz
  ·rename_i i hi;exact⟨i,hi,aa⟩
  ·cases hz
 obtain⟨i,hi,aE⟩:=hi;unfold wpOp;simp only[execOp,convert,aG,eu,hs,hd,hx,Conv.unsafePointer];refine Vq hb ?_;simp only[sizeOf,aG,gl,hi,bt];simp only[variablesAt,aG,Av,Aw];have:U.shape? b=some (e,c.size):=by simp[Hp.shape?,hb]
 have hf:(U.f b).isSome=true:=by simp[hb]
 refine⟨hf,?_⟩;rw[this];have qh:(decide (i.size=0)||true)=true:=al;show wpS P (if(decide (i.size=0)||liesAt P P.depth e (c.size/P.cellsOf e) off t 1)=true then _ else _) _ _ _;rw[hl,qh];exact h
variable {u el:TypeId}
def anl{y:Operand}{a:Addr}(ht:P.underlying t=some (.pointer el))(hz:0<cD P el)(hx:ak I x=.pointer (some a))(hy:ak I y=.pointer (some a))(h:nx (aB I dst (.bool false)) ds U):wpOp E ⟨dst,.binOp .neq t x y u,ty,pos,af,g⟩ I ds U nx pn:=by
 have hi:∃i,P.info? el=some i/\i.size≠0:=by
  unfold cD at hz;split at hz
  ·rename_i i hi;exact⟨i,hi,aa⟩
  ·cases hz
 obtain⟨i,hi,aE⟩:=hi;unfold wpOp;simp only[execOp,aG,hx,hy];refine zd ?_ ⟨al,al⟩;unfold binOp;simp only[aG,bt];refine C2 λn=>?_;unfold Op.equalIn;simp only[aG,eu,ht,sizeOf,gl,hi,bt];simp only[aE,ne_eq,not_false_eq_true,if_true,sameAddr,beq_self_eq_true];exact h
def fN{fn:Func}{ex:Array Value->Sem Value}(hf:P.funcs[f]? =some fn)(hb:fn.body.isNone=true)(hn:(fn.name== "runtime.NumGoroutine")=false)(h1:Extern.findNext fn=none)(h2:Extern.find fn=some ex)(h:wpS P (ex args) (λv ae=>nx (aB I dst v) ds ae) (sL λv ae=>pn [{v,recovered:=false}] ae) U):kx E f args U dst I ds nx pn:=by
 unfold kx callFunc;simp only[aG,Av,hf,hn,hb,if_true,Bool.false_eq_true,if_false,NT,h1,h2];exact⟨rfl,h⟩
def Qd{a:Option Addr}:mw P s d (.pointer a)=none:=by unfold mw;cases P.underlying s<;>cases P.underlying d<;>first|rfl|(rename_i x;cases x<;>rfl)|(rename_i x y;cases y<;>rfl)
def alO:Extern.findNext f153=none:=ah
def alM:Extern.find f153=some Extern.AbiNoEscape.same:=ah
def alN:(f153.name== "runtime.NumGoroutine")=false:=ah
def akk:liesAt prog prog.depth 155 (2/prog.cellsOf 155) 0 153 1=true:=ah
def Wa:prog.underlying 137=some .unsafePointer:=ah
def NJ:prog.underlying 151=some (.pointer 153):=ah
def Nw:0<cD prog 153:=by have:cD prog 153=2:=ah;omega
variable {E:Env prog}
def abQ(hb:U.f b=some (.cells #[.pointer none,v] 155 (0,0))):
 ay E 117 #[pV b] U λe' ae=>e'=.returned (.tuple #[])/\ae=U.set b (.cells #[pV b,v] 155 (0,0)):=by
 refine aX func117 ntmps117 results117 λQ aD an aA=>?_;simp only[go_sem,seval,hb,Qd];refine aq2 (off:=0) NJ Wa au hb al Nw ?_;refine ag ?_;refine fN func153 rfl alN alO alM ?_;show jl E 20 _ _ _ (aB _ (some 10) (pV b)) [] U;simp only[go_sem,seval,Qd];refine adD (off:=0) Wa NJ au hb akk Nw ?_;refine aJ hb ?_;exact aD dA ao ⟨rfl,rfl⟩
def Qa(hb:U.f b=some (.cells #[pV b,v] 155 (0,0))):
 ay E 117 #[pV b] U λe' ae=>e'=.returned (.tuple #[])/\ae=U:=by
 refine aX func117 ntmps117 results117 λQ aD an aA=>?_;refine aJ hb ?_;refine anl (a:=⟨b,0,none⟩) NJ Nw au au ?_;refine ag ?_;exact aD dA ao ⟨rfl,rfl⟩
def vS:oN prog 67 where
 e:=5
 z:=1
 zero:=#[.int .u8 0]
 bytes:=1
 hu:=underlying67
 hi:=⟨t5,.int .u8 0,ah,ah,ah,rfl,ah⟩
inductive iC (J:Hp) (b:Nat) (l:List UInt8) (U:Hp):Prop
 |new (h:l=[]) (hs:U=J.set b (.cells #[.pointer none,.slice none 0 0] 155 (0,0)))
 |old (h:l=[]) (hs:U=J.set b (.cells #[pV b,.slice none 0 0] 155 (0,0)))
 |buf (bb cap:Nat) (rest:List Value) (hn:J.f bb=none) (aE:bb≠b) (hc:l.length<=cap) (hr:cap<=l.length+rest.length)
  (hs:U=(J.set b (.cells #[pV b,.slice (some ⟨bb,0,none⟩) l.length cap] 155 (0,0))).set bb (.cells (dG l++rest).toArray 5 (0,0)))
def Pz(a b:List UInt8):dG (a++b)=dG a++dG b:=by simp[dG]
def vK(a:List UInt8):(dG a).length=a.length:=by simp[dG]
def aak(a:List UInt8):(dG a).all dp=true:=by simp[dG,dp]
def Hp.set_comm{a:Nat}{x y:Obj}(h:a≠b):(U.set a x).set b y=(U.set b y).set a x:=
 Hp.ext' λz=>by
  simp only[Hp.set];by_cases h1:z=b
  ·subst h1;simp[Ne.symm h]
  ·simp[h1]
def FB(z:Value)(n:Nat):Builtin.zeroCells #[z] n=(List.replicate n z).toArray:=by
 apply Array.ext';simp only[Builtin.zeroCells,Array.toList_map,Array.toList_range];apply List.ext_getElem?;intro i;simp only[List.getElem?_map,List.getElem?_replicate];by_cases h:i<n
 ·rw[List.getElem?_eq_getElem (aW h)];simp[h,Nat.mod_one]
 ·rw[List.getElem?_eq_none (aW h)];simp[h]
variable {l s:List UInt8}
def Pu{y:Operand}{sl:Value}(hb:J.f b=none)(hu:BX prog u=true)(hB:iC J b l U)(hs:U.f b=some (.cells #[pV b,sl] 155 (0,0)))(hx:ak I x=sl)(hn:tH (ak I y)=some s.length)(hf:jc U 1 s.length (ak I y)=some (dG s).toArray)(fZ:l.length+s.length<=1000000000000)(h:∀v' ae IQ,dp v'=true->ae.f b=some (.cells #[pV b,sl] 155 (0,0))->IQ.le (ae.set b (.cells #[pV b,v'] 155 (0,0)))->iC J b (l++s) IQ->nx (aB I dst v') ds ae):
 aU E ⟨dst,.call ⟨.builtin .append,#[x,y],#[67,u]⟩,ty,pos,af,g⟩ I ds U nx pn:=by
 have kO:vS.z=1:=rfl;have CZ:vS.bytes=1:=rfl
 cases hB with
 |new hl kE=>
  subst kE;rw[Hp.bD]at hs;simp at hs
 |old hl kE=>
  subst hl;subst kE;rw[Hp.bD]at hs;simp at hs;subst hs;refine sU vS (base:=none) (l:=0) (c:=0) (n:=s.length) (old:=#[]) (new:=(dG s).toArray) hu hx hn rfl (by rw[kO];exact hf) (by rw[CZ];simp at fZ;omega) (by simp at fZ;omega) ?_ ?_
  ·intro hc;have:s=[]:=List.eq_nil_of_length_eq_zero aa;subst this;refine⟨_,rfl,?_⟩;refine h _ _ _ rfl aZ ao (.old rfl ?_);simp only[Hp.set_set,List.length_nil,Nat.zero_add]
  ·intro hc bb cap eQ j0;have aE:bb≠b:=by intro e;subst e;rw[Hp.bD]at eQ;cases eQ
   have Dw:J.f bb=none:=by rw[Hp.aO _ aE]at eQ;exact eQ
   refine h _ _ _ rfl ?_ ao (.buf bb cap (List.replicate (cap-s.length) (.int .u8 0)) Dw aE (aW j0) (by simp;omega) ?_)
   ·rw[Hp.aO _ (λe=>aE e.symm),Hp.bD]
   ·have ez:vS.zero= #[.int .u8 0]:=rfl;rw[ez,FB,Hp.set_comm aE,Hp.set_set]
    have e1: #[]++(dG s).toArray++(List.replicate (cap-(0+s.length)) (Value.int .u8 0)).toArray=(dG s++List.replicate (cap-s.length) (Value.int .u8 0)).toArray:=by apply Array.ext';simp
    rw[e1];simp only[Nat.zero_add,List.nil_append];rfl
 |buf bb cap rest Dw aE hc hr kE=>
  subst kE;rw[Hp.aO _ (λe=>aE e.symm),Hp.bD]at hs;simp at hs;subst hs;have lB:((J.set b (.cells #[pV b,.slice (some ⟨bb,0,none⟩) l.length cap] 155 (0,0))).set bb (.cells (dG l++rest).toArray 5 (0,0))).f bb=some (.cells (dG l++rest).toArray 5 (0,0)):=aZ
  have hold:jc ((J.set b (.cells #[pV b,.slice (some ⟨bb,0,none⟩) l.length cap] 155 (0,0))).set bb (.cells (dG l++rest).toArray 5 (0,0))) vS.z l.length (.slice (some ⟨bb,0,none⟩) l.length cap)=some (dG l).toArray:=by rw[kO];simp only[jc,cellsOf,lB];rw[if_pos ⟨trivial,by simp[vK]⟩];congr 1;apply Array.ext';simp[List.extract_eq_take_drop,vK]
  refine sU vS (base:=some ⟨bb,0,none⟩) (l:=l.length) (c:=cap) (n:=s.length) (old:=(dG l).toArray) (new:=(dG s).toArray) hu hx hn hold (by rw[kO];exact hf) (by rw[CZ];omega) aa ?_ ?_
  ·intro xR;refine⟨_,⟨_,_,lB,rfl,?_,?_,rfl⟩,?_⟩
   ·rw[kO];simp[vK];omega
   ·have:=aak s;simpa using this
   ·refine h _ _ _ rfl ?_ ao (.buf bb cap (rest.drop s.length) Dw aE (aW xR) (by simp;omega) ?_)
    ·rw[Hp.aO _ (λe=>aE e.symm),Hp.aO _ (λe=>aE e.symm),Hp.bD]
    ·rw[Hp.set_set,Hp.set_comm aE,Hp.set_set]
     have e1:(dG l++rest).toArray.extract 0 (0+l.length*vS.z)++(dG s).toArray++(dG l++rest).toArray.extract (0+l.length*vS.z+(dG s).toArray.size) (dG l++rest).toArray.size=(dG (l++s)++rest.drop s.length).toArray:=by rw[kO];apply Array.ext';simp only[Array.toList_append,Array.toList_extract,List.extract_eq_take_drop,List.size_toArray,Nat.zero_add,Nat.mul_one,Nat.sub_zero,List.drop_zero,Pz,vK,List.append_assoc];rw[List.take_append_of_le_length (by rw[vK];omega),List.take_of_length_le (by rw[vK];omega)];congr 2;rw[List.drop_append,vK,List.drop_eq_nil_of_le (by rw[vK];omega)];simp[vK];rw[List.take_of_length_le (by simp;omega)]
     rw[e1];simp only[List.length_append]
  ·intro eS b2 rL fO afG;have xW:b2≠bb:=by intro e;subst e;rw[Hp.bD]at fO;cases fO
   have G4:b2≠b:=by intro e;subst e;rw[Hp.aO _ (λe=>aE e.symm),Hp.bD]at fO;cases fO
   have ht2:J.f b2=none:=by rw[Hp.aO _ xW,Hp.aO _ G4]at fO;exact fO
   refine h _ _ ((J.set b (.cells #[pV b,.slice (some ⟨b2,0,none⟩) (l++s).length rL] 155 (0,0))).set b2 (.cells (dG (l++s)++List.replicate (rL-(l.length+s.length)) (Value.int .u8 0)).toArray 5 (0,0))) rfl ?_ ?_
    (.buf b2 rL _ ht2 G4 (aW afG) (by simp;omega) rfl)
   ·rw[Hp.aO _ (λe=>G4 e.symm),Hp.aO _ (λe=>aE e.symm),Hp.bD]
   ·have ez:vS.zero= #[.int .u8 0]:=rfl
    have e1:(dG l).toArray++(dG s).toArray++(List.replicate (rL-(l.length+s.length)) (Value.int .u8 0)).toArray=(dG (l++s)++List.replicate (rL-(l.length+s.length)) (Value.int .u8 0)).toArray:=by apply Array.ext';simp[Pz]
    rw[ez,FB,e1,Hp.set_comm G4,Hp.set_comm aE,Hp.set_set,List.length_append];rw[Hp.set_comm (λe=>xW e.symm)];exact HB (by rw[Hp.aO _ (λe=>xW e.symm),Hp.aO _ aE];exact Dw)
def P9(hB:iC J b l U):
 ay E 117 #[pV b] U λe' ae=>e'=.returned (.tuple #[])/\iC J b l ae/\∃sl,ae.f b=some (.cells #[pV b,sl] 155 (0,0)):=by
 cases hB with
 |new hl hs=>
  subst hs;refine(abQ aZ).mono λe' ae ⟨h1,h2⟩=>⟨h1,?_,?_⟩
  ·rw[h2,Hp.set_set];exact .old hl rfl
  ·rw[h2];exact⟨_,aZ⟩
 |old hl hs=>
  subst hs;refine(Qa aZ).mono λe' ae ⟨h1,h2⟩=>⟨h1,?_,?_⟩
  ·rw[h2];exact .old hl rfl
  ·rw[h2];exact⟨_,aZ⟩
 |buf bb cap rest hn aE hc hr hs=>
  subst hs
  have hf:((J.set b (.cells #[pV b,.slice (some ⟨bb,0,none⟩) l.length cap] 155 (0,0))).set bb (.cells (dG l++rest).toArray 5 (0,0))).f b=some (.cells #[pV b,.slice (some ⟨bb,0,none⟩) l.length cap] 155 (0,0)):=by rw[Hp.aO _ (λe=>aE e.symm),Hp.bD]
  refine(Qa hf).mono λe' ae ⟨h1,h2⟩=>⟨h1,?_,?_⟩
  ·rw[h2];exact .buf bb cap rest hn aE hc hr rfl
  ·rw[h2];exact⟨_,hf⟩
def Ws(hb:J.f b=none)(hB:iC J b l U)(fZ:l.length+s.length<=1000000000000):
 ay E 66 #[pV b,.string (B s)] U λe' ae=>e'=.returned (.tuple #[.int .i64 s.length,.nilIface])/\iC J b (l++s) ae:=by
 refine aX func66 ntmps66 results66 λQ aD an aA=>?_;refine ag ?_;refine dH Q8 (P9 hB) (λv rI ⟨h1,qN,sl,hs⟩=>?_) (λch ae ⟨h,_⟩=>by cases h);refine aJ hs ?_;refine Pu hb alw qN hs au (s:=s) (by simp only[go_sem,seval,tH]) ?_ fZ (λv' ae IQ h0 h1 h2 h3=>?_)
 ·simp only[go_sem,seval,jc];rw[Od,PC];simp
 ·refine bu h1 h0 ?_;refine an iO h2 ⟨?_,h3⟩;exact au
def iC.frame(h:iC J b l U)(hn:U.f n=none):iC (J.set n o) b l (U.set n o):=by
 cases h with
 |new hl hs=>
  subst hs;have aE:b≠n:=bj hn aZ;exact .new hl (Hp.set_comm aE)
 |old hl hs=>
  subst hs;have aE:b≠n:=bj hn aZ;exact .old hl (Hp.set_comm aE)
 |buf bb cap rest h1 h2 h3 h4 hs=>
  subst hs;have n2:bb≠n:=bj hn aZ;have n1:b≠n:=λe=>by subst e;rw[Hp.aO _ (λe=>h2 e.symm),Hp.bD]at hn;cases hn
  refine .buf bb cap rest (by rw[Hp.aO _ n2];exact h1) h2 h3 h4 ?_;rw[Hp.set_comm n2,Hp.set_comm n1]
def Ew{cf:Hp}(h:J.le cf)(b:Nat)(o:Obj):(J.set b o).le (cf.set b o):=λx p hx=>by
 by_cases e:x=b
 ·subst e;rw[Hp.bD]at hx|-;exact hx
 ·rw[Hp.aO _ e]at hx|-;exact h x p hx
def kG(hn:J.f n=none):J.le (J.set n o):=λx p hx=>by have:x≠n:=bj hx hn;rw[Hp.aO _ this];exact hx
def iC.forget(h:iC (J.set n o) b l U)(hn:J.f n=none):∃ae,ae.le U/\iC J b l ae:=by
 have hle:=kG (o:=o) hn
 cases h with
 |new hl hs=>subst hs;exact⟨_,Ew hle _ _,.new hl rfl⟩
 |old hl hs=>subst hs;exact⟨_,Ew hle _ _,.old hl rfl⟩
 |buf bb cap rest h1 h2 h3 h4 hs=>
  subst hs;have n2:bb≠n:=bj h1 aZ;exact⟨_,Ew (Ew hle _ _) _ _,.buf bb cap rest (by rw[Hp.aO _ n2]at h1;exact h1) h2 h3 h4 rfl⟩
def iC.none(h:iC J b l U)(hn:U.f n=none):J.f n=none/\n≠b:=by
 cases h with
 |new hl hs=>
  subst hs;have aE:n≠b:=bj hn aZ;rw[Hp.aO _ aE]at hn;exact⟨hn,aE⟩
 |old hl hs=>
  subst hs;have aE:n≠b:=bj hn aZ;rw[Hp.aO _ aE]at hn;exact⟨hn,aE⟩
 |buf bb cap rest h1 h2 h3 h4 hs=>
  subst hs;have n2:n≠bb:=bj hn aZ;rw[Hp.aO _ n2]at hn;have aE:n≠b:=bj hn aZ;rw[Hp.aO _ aE]at hn;exact⟨hn,aE⟩
def Wr{y:UInt8}(hb:J.f b=none)(hB:iC J b l U)(fZ:l.length+1<=1000000000000):
 ay E 67 #[pV b,.int .u8 y.toNat] U λe' ae=>e'=.returned .nilIface/\iC J b (l++[y]) ae:=by
 refine aX func67 ntmps67 results67 λQ aD an aA=>?_;refine ag ?_;refine dH Q8 (P9 hB) (λv rI ⟨h1,qN,sl,hs⟩=>?_) (λch ae ⟨h,_⟩=>by cases h);refine aJ hs ?_;refineλnb wE=>?_;obtain⟨D5,SD⟩:=qN.none wE;have uu:=qN.frame (o:=.cells #[.int .u8 y.toNat] 5 (0,0)) wE;have iH:(rI.set nb (.cells #[.int .u8 y.toNat] 5 (0,0))).f b=some (.cells #[pV b,sl] 155 (0,0)):=by rw[Hp.aO _ (λe=>SD e.symm)];exact hs
 refine ag ?_
 dsimp only
 refine Pu (J:=J.set nb (.cells #[.int .u8 y.toNat] 5 (0,0))) (l:=l) (s:=[y]) (by rw[Hp.aO _ (λe=>SD e.symm)];exact hb) ah uu iH au au ?_ (aW fZ) (λv' ae IQ h0 h1 h2 h3=>?_)
 ·refine ag ?_;simp[jc,cellsOf,Hp.set,dG]
 ·obtain⟨IS,g1,g2⟩:=h3.forget D5;refine bu h1 h0 ?_;exact an aI (Hp.le_trans g1 h2) ⟨rfl,g2⟩
variable {x:Array Operand}{a:Array TypeId}
def aiQ:cW (.call ⟨.builtin .unsafeSliceData,x,a⟩)=false:=bp
def aiP:cW (.call ⟨.builtin .unsafeString,x,a⟩)=false:=bp
attribute [go_sem] aiQ aiP
variable {E:Env P}{x:Operand}
def apP{cB:Array TypeId}{a:Addr}{c:Nat}(hx:ak I x=.slice (some a) n c)(hc:c≠0)(h:nx (aB I dst (.pointer (some a))) ds U):aU E ⟨dst,.call ⟨.builtin .unsafeSliceData,#[x],cB⟩,ty,pos,af,g⟩ I ds U nx pn:=by
 show wpOp E _ I ds U nx pn;unfold wpOp;simp only[execOp,resolve,aG,bt,invoke];show wpS P (do pure (Next.value (<-Builtin.unsafeSliceData_ cB ty (#[x].map (ak I)))):Sem Next) _ _ _;rw[lN];have e1: #[x].map (ak I)= #[.slice (some a) n c]:=by simp[hx]
 rw[e1];obtain⟨k,rfl⟩:∃k,c=k+1:=⟨c-1,aa⟩;exact h
def ako{Q:ByteArray->Hp->Prop}:∀(l:List UInt8) (off:Nat) (acc:ByteArray),(∀j x,l[j]? =some x->U.cell? ⟨b,off+j,none⟩=some (.int .u8 x.toNat))->Q ⟨acc.data++l.toArray⟩ U->wpS P (loadBytes ⟨b,off,none⟩ acc l.length) Q H U:=by
 intro l
 induction l with
 |nil=>
  intro off acc _ h;have:(⟨acc.data++([]:List UInt8).toArray⟩:ByteArray)=acc:=al;rw[this]at h;exact h
 |cons x l ih=>
  intro off acc hl h;have h0:=hl 0 x rfl;simp only[List.length_cons,loadBytes,aG];refine⟨_,h0,?_⟩;have ha:(⟨b,off,none⟩:Addr).add 1=⟨b,off+1,none⟩:=by unfold Addr.add;simp
  simp only[ha];refine ih (off+1) _ (λj y hy=>?_) ?_
  ·have:=hl (j+1) y (aW hy);rw[show off+1+j=off+(j+1)by omega];exact this
  ·have e:(acc.push ((x.toNat:Int).toNat).toUInt8).data++l.toArray=acc.data++(x::l).toArray:=by have hx:((x.toNat:Int).toNat).toUInt8=x:=al;rw[hx];simp[ByteArray.push]
   rw[e];exact h
def aqr{y:Operand}{pt it:TypeId}{bb:Nat}{rest:List Value}(hpt:P.underlying pt=some (.pointer el))(Se:P.cellsOf el=1)(hx:ak I x=pV bb)(hy:ak I y=.int .i64 l.length)(hl:l≠[])(fZ:l.length<=1000000000000)(hb:U.f bb=some (.cells (dG l++rest).toArray el (0,0)))(h:∀ae,(∀b,b≠bb->ae.f b=U.f b)->nx (aB I dst (.string (B l))) ds ae):aU E ⟨dst,.call ⟨.builtin .unsafeString,#[x,y],#[pt,it]⟩,ty,pos,af,g⟩ I ds U nx pn:=by
 show wpOp E _ I ds U nx pn;unfold wpOp
 have xV:(l.length:Int)≠0:=by have:l.length≠0:=λe=>hl (List.eq_nil_of_length_eq_zero e);omega
 simp only[execOp,resolve,aG,bt,invoke];show wpS P (do pure (Next.value (<-Builtin.unsafeString_ #[pt,it] ty (#[x,y].map (ak I)))):Sem Next) _ _ _;rw[lN];have e1: #[x,y].map (ak I)= #[pV bb,.int .i64 l.length]:=by simp[hx,hy]
 rw[e1]
 show wpS P (do
  if(l.length:Int)<0 then runtimePanic (.error "unsafe.String: len out of range")
  if(l.length:Int)>IntKind.i64.max then unsupported (.unsafePointer "String: a length above the largest int")
  if(l.length:Int)=0 then pure (.string .empty)
  else if<-variablesAt ⟨bb,0,none⟩ (<-elemOf pt) (l.length:Int).toNat then do
   let s<-loadBytes ⟨bb,0,none⟩ .empty (l.length:Int).toNat
   freeze ⟨bb,0,none⟩ (l.length:Int).toNat
   pure (.string s)
  else unsupported (.unsafePointer "String: not so many bytes at ptr"):Sem Value) _ _ _
 rw[if_neg aa,if_neg (by rw[show IntKind.i64.max=9223372036854775807 from rfl];omega),if_neg xV];simp only[aG,bt,elemOf,eu,hpt,variablesAt,Av,Aw];have xX:U.shape? bb=some (el,(dG l++rest).length):=by simp[Hp.shape?,hb]
 rw[xX];have hlen:(dG l++rest).length=l.length+rest.length:=by simp[dG]
 refine⟨by rw[hb];rfl,?_⟩;show wpS P (if liesAt P P.depth el ((dG l++rest).length/P.cellsOf el) 0 el (l.length:Int).toNat=true then _ else _) _ _ _
 have hla:liesAt P P.depth el ((dG l++rest).length/P.cellsOf el) 0 el (l.length:Int).toNat=true:=by rw[Se,Nat.div_one];exact Go.Lib.liesAt_bytes Se _ _ (by rw[hlen];simp)
 rw[if_pos hla];rw[aG];have LH:(l.length:Int).toNat=l.length:=al;rw[LH];refine ako l 0 .empty (λj x hj=>?_) ?_
 ·have uD:j<l.length:=(List.getElem?_eq_some_iff.1 hj).1
  have h1:(dG l++rest)[j]? =some (.int .u8 x.toNat):=by rw[List.getElem?_append_left (by simpa[dG]using uD)];simp[dG,hj]
  simp[Hp.cell?,hb,h1]
 ·have hB:(⟨ByteArray.empty.data++l.toArray⟩:ByteArray)=B l:=by simp[B]
  rw[hB,aG,Wo];refine⟨by simp[hb],h _ λb aE=>?_⟩;unfold Hp.freeze;split
  ·rfl
  ·simp[Hp.modify,aE]
def arf:∃el,prog.underlying 240=some (.pointer el)/\el=5/\prog.cellsOf el=1:=⟨5,underlying240,rfl,ah⟩
variable {E:Env prog}
def Ns(hb:J.f b=none)(hB:iC J b l U)(hl:l≠[])(fZ:l.length<=1000000000000):
 ay E 68 #[pV b] U λe' ae=>e'=.returned (.string (B l))/\ae=J:=by
 cases hB with
 |new h _=>exact absurd h hl
 |old h _=>exact absurd h hl
 |buf bb cap rest h1 h2 h3 h4 hs=>
  have hc:cap≠0:=λe=>hl (List.eq_nil_of_length_eq_zero aa);have hf:U.f b=some (.cells #[pV b,.slice (some ⟨bb,0,none⟩) l.length cap] 155 (0,0)):=by rw[hs,Hp.aO _ (λe=>h2 e.symm),Hp.bD]
  have eQ:U.f bb=some (.cells (dG l++rest).toArray 5 (0,0)):=by rw[hs,Hp.bD]
  have hle:∀ae:Hp,(∀x,x≠bb->ae.f x=U.f x)->J.le ae:=λae hh x o hx=>by have n1:x≠bb:=bj hx h1;have n2:x≠b:=bj hx hb;rw[hh x n1,hs,Hp.aO _ n1,Hp.aO _ n2];exact hx
  clear hs;refine aX func68 ntmps68 results68 λQ aD an aA=>?_;refine ag ?_;refine yF [0,1,2,3,5,6,7,8,9,4,10,11] (λ_ _ _=>False) ah ah (λ_ _ _ _ h=>h.elim) ?_;refine aJ hf ?_;refine apP (a:=⟨bb,0,none⟩) (n:=l.length) (c:=cap) au hc ⟨?_,?_⟩
  ·(repeat(first|exact jL|(apply jK;(focus decide+kernel))))
   refine lF rfl (aQ hf) ?_
   (repeat(first|exact jL|(apply jK;(focus decide+kernel))))
  refine ag ?_;obtain⟨el,u1,rfl,u2⟩:=arf;refine aqr (bb:=bb) (l:=l) (rest:=rest) u1 u2 au au hl fZ eQ λae hh=>⟨by(repeat(first|exact jL|(apply jK;(focus decide+kernel)))),?_⟩;refine ag ?_;exact an aI (hle ae hh) ⟨au,rfl⟩
def aw(w n:Nat):List UInt8:=(List.range w).map λi=>(n/256^(w-1-i)).toUInt8
def bJ(w n:Nat):(aw w n).length=w:=by simp[aw]
def YY{i:Nat}(h:i<w):(aw w n)[i]? =some (n/256^(w-1-i)).toUInt8:=by simp[aw,h]
def aaj{k:Nat}(hk:k<=7)(hn:n<9223372036854775808):IntKind.wrap .u8 (yB .i64 (n:Int) ((8*k:Nat):Int))=(((n/256^k).toUInt8).toNat:Int):=by
 have e0:IntKind.i64.bits=64:=rfl;unfold yB;rw[e0,Int.toNat_natCast,Nat.min_eq_left aa]
 have e1:(2:Int)^(8*k)=((256^k:Nat):Int):=by rw[show(256:Nat)=2^8 by rfl,<-Nat.pow_mul];simp
 rw[e1,Int.fdiv_eq_ediv_of_nonneg _ (Int.natCast_nonneg _),<-Int.natCast_ediv,IntKind.wrap_u8];have:(n/256^k).toUInt8.toNat=(n/256^k) % 256:=al;rw[this];omega
def B3(hb:J.f b=none)(hB:iC J b l U)(hw:w<=8)(hn:n<9223372036854775808)(fZ:l.length+8<=1000000000):
 ay E 116 #[pV b,.int .i64 w,.int .i64 n] U λe' ae=>e'=.returned (pV b)/\iC J b (l++aw w n) ae:=by
 refine aX func116 ntmps116 results116 λQ aD an aA=>?_;refine ag ?_;refine di (λm I ds U=>ds=[]/\I 0=pV b/\I 2=.int .i64 n/\I 7=.int .i64 ((m:Int)-1)/\∃i,i+m=w/\iC J b (l++(aw w n).take i) U) w ?_ ?_
 ·have c1:IntKind.wrap .i64 ((w:Int)-1)=(w:Int)-1:=wrap64 aa aa;refine aJ c1 ?_;exact⟨0,aa,aW hB⟩
 ·rintro m I ds U X ⟨rfl,h0,h2,h7,i,hi,hB⟩ hX
  cases m with
  |zero=>
   have c1:¬((0:Int)<=((0:Nat):Int)-1):=aa;refine bu h0 h7 ?_;refine an aI ao ⟨au,?_⟩;rw[List.take_of_length_le (by rw[bJ];omega)]at hB;exact hB
  |succ k=>
   have c1:(0:Int)<=((k+1:Nat):Int)-1:=aa;have c2:IntKind.wrap .i64 (8*(((k+1:Nat):Int)-1))=((8*k:Nat):Int):=cH;have c3:(0:Int)<=((8*k:Nat):Int):=aa;have c4:=aaj (n:=n) (k:=k) aa hn;refine bu h7 c1 ?_;refine bG 9 ?_;refine jQ h0 h2 h7 c2 c3 c4 ?_;refine dH aev (Wr hb hB ?_) ?_ ?_
   ·simp[bJ];omega
   ·rintro v ae ⟨h,pa⟩;refine gf ?_;have c5:IntKind.wrap .i64 (((k+1:Nat):Int)-1-1)=(k:Int)-1:=cH;refine bu h7 c5 ?_;refine hX k _ _ _ _ aa ⟨rfl,?_,?_,?_,i+1,aa,?_⟩ ao
    ·exact aQ h0
    ·exact aQ h2
    ·exact au
    ·have e:(aw w n).take (i+1)=(aw w n).take i++[(n/256^k).toUInt8]:=by rw[List.take_add_one,YY aa,show w-1-i=k by omega];rfl
     rw[e,<-List.append_assoc];exact pa
   ·rintro ch ae ⟨h,_⟩;cases h
inductive Arg
 |BY (n:Nat)
 |short (n:Nat)
 |long (n:Nat)
 |mM (n:Nat)
 |text (s:List UInt8)
 |flag (b:Bool)
def oQ:Arg->Value
 | .BY n=>.iface 157 (.int .i64 n)
 | .short n=>.iface 158 (.int .i64 n)
 | .long n=>.iface 159 (.int .i64 n)
 | .mM n=>.iface 237 (.int .i64 n)
 | .text s=>.iface 238 (.string (B s))
 | .flag b=>.iface 239 (.bool b)
def eI:Arg->List UInt8
 | .BY n=>aw 1 n
 | .short n=>aw 2 n
 | .long n=>aw 4 n
 | .mM n=>aw 8 n
 | .text s=>aw 1 s.length++s
 | .flag b=>aw 1 (if b then 1 else 0)
def lh:Arg->Prop
 | .BY n| .short n| .long n| .mM n=>n<9223372036854775808
 |_=>True
def dg(l:List Arg):List UInt8:=l.flatMap eI
def ZH{x:Nat}(h:iC J b l U)(hb:J.f b=none)(hx:J.f x=some o):U.f x=some o:=by
 have aE:x≠b:=bj hx hb
 cases h with
 |new _ hs=>rw[hs,Hp.aO _ aE];exact hx
 |old _ hs=>rw[hs,Hp.aO _ aE];exact hx
 |buf bb _ _ h1 _ _ _ hs=>
  have h2:x≠bb:=bj hx h1;rw[hs,Hp.aO _ h2,Hp.aO _ aE];exact hx
def Ay(J:Hp)(xs:List Arg)(v:Value):Prop:=
 (xs=[]/\v=.slice none 0 0)\/∃sb,v=.slice (some ⟨sb,0,none⟩) xs.length xs.length/\J.f sb=some (.cells (xs.map oQ).toArray 20 (0,0))
def HY{xs:List Arg}(hb:J.f b=none)(hB:iC J b l U)(hv:Ay J xs v)(gq:∀a∈xs,lh a)(hn:xs.length<=1000)(fZ:l.length+(dg xs).length<=900000000):
 ay E 65 #[pV b,v] U λe' ae=>e'=.returned (.tuple #[])/\iC J b (l++dg xs) ae:=by
 refine aX func65 ntmps65 results65 λQ aD an aA=>?_
 have hlen:∃bs c,v=.slice bs xs.length c:=by
  rcases hv with⟨rfl,rfl⟩|⟨sb,rfl,_⟩
  ·exact⟨_,_,rfl⟩
  ·exact⟨_,_,rfl⟩
 obtain⟨bs,c,SW⟩:=hlen;refine aJ SW ?_;refine di (λm I ds U=>ds=[]/\∃i,i+m=xs.length/\I 0=pV b/\I 13=v/\I 14=.int .i64 xs.length/\I 15=.int .i64 i/\iC J b (l++dg (xs.take i)) U) xs.length ?_ ?_
 ·refine⟨rfl,0,aa,?_,?_,?_,?_,?_⟩
  ·exact au
  ·exact aQ SW
  ·exact au
  ·exact au
  ·simpa[dg]using hB
 ·rintro m I ds U X ⟨rfl,i,hi,h0,mz,mA,kR,hB⟩ hX;rcases Nat.lt_or_ge i xs.length with bl|xP
  ·have c1:(i:Int)<xs.length:=aa;rcases hv with⟨rfl,rfl⟩|⟨sb,rfl,nP⟩
   ·simp at bl
   have uO:=ZH hB hb nP;have c2:(0:Int)<=i:=aa;obtain⟨a,ha⟩:∃a,xs[i]? =some a:=⟨_,List.getElem?_eq_getElem bl⟩;have lB:(xs.map oQ)[i]? =some (oQ a):=by simp[ha]
   have wH:dg (xs.take (i+1))=dg (xs.take i)++eI a:=by rw[List.take_add_one,ha];simp[dg]
   have hlen:(dg (xs.take i)).length+(eI a).length<=(dg xs).length:=by
    have:dg xs=dg (xs.take (i+1))++dg (xs.drop (i+1)):=by simp only[dg];rw[<-List.flatMap_append,List.take_append_drop]
    rw[this,wH];simp
   have c5:IntKind.wrap .i64 ((i:Int)+1)=((i+1:Nat):Int):=cH;have G8:=gq a (List.mem_of_getElem? ha)
   have fin:∀aC ae,aC 0=pV b->aC 13=.slice (some ⟨sb,0,none⟩) xs.length xs.length->aC 14=.int .i64 xs.length->aC 15=.int .i64 ((i+1:Nat):Int)->iC J b (l++dg (xs.take i)++eI a) ae->X aC [] ae:=by intro aC ae k0 k13 k14 k15 kB;refine hX (m-1) _ _ _ _ aa ⟨rfl,i+1,aa,k0,k13,k14,k15,?_⟩ ao;rw[wH,<-List.append_assoc];exact kB
   cases a with
   |BY n=>
    simp only[oQ]at lB;refine jE h0 mz mA kR c1 c2 uO lB ?_;refine dH A7 (B3 (w:=1) hb hB aa G8 (by simp at hlen|-;omega)) ?_ ?_
    ·rintro v ae ⟨h,pa⟩;refine bu kR c5 ?_;exact fin _ _ (aQ h0) (aQ mz) (aQ mA) au pa
    ·rintro ch ae ⟨h,_⟩;cases h
   |short n=>
    simp only[oQ]at lB;refine jE h0 mz mA kR c1 c2 uO lB ?_;refine dH A7 (B3 (w:=2) hb hB aa G8 (by simp at hlen|-;omega)) ?_ ?_
    ·rintro v ae ⟨h,pa⟩;refine bu kR c5 ?_;exact fin _ _ (aQ h0) (aQ mz) (aQ mA) au pa
    ·rintro ch ae ⟨h,_⟩;cases h
   |long n=>
    simp only[oQ]at lB;refine jE h0 mz mA kR c1 c2 uO lB ?_;refine dH A7 (B3 (w:=4) hb hB aa G8 (by simp at hlen|-;omega)) ?_ ?_
    ·rintro v ae ⟨h,pa⟩;refine bu kR c5 ?_;exact fin _ _ (aQ h0) (aQ mz) (aQ mA) au pa
    ·rintro ch ae ⟨h,_⟩;cases h
   |mM n=>
    simp only[oQ]at lB;refine jE h0 mz mA kR c1 c2 uO lB ?_;refine dH A7 (B3 (w:=8) hb hB aa G8 (by simp at hlen|-;omega)) ?_ ?_
    ·rintro v ae ⟨h,pa⟩;refine bu kR c5 ?_;exact fin _ _ (aQ h0) (aQ mz) (aQ mA) au pa
    ·rintro ch ae ⟨h,_⟩;cases h
   |text t=>
    simp only[oQ]at lB
    have ht:t.length<=900000000:=by
     have:(eI (.text t)).length=1+t.length:=by simp[eI,bJ]
     omega
    have ig:(aw 1 t.length).length=1:=bJ _ _;have iA:(eI (.text t)).length=1+t.length:=by simp[eI,bJ]
    refine jE h0 mz mA kR c1 c2 uO lB ?_;refine dH A7 (B3 (w:=1) hb hB aa aa (by simp at hlen|-;omega)) ?_ ?_
    ·rintro v ae ⟨h,pa⟩
     cases h
     refine ag ?_;refine dH aeu (Ws hb pa (by simp at hlen|-;omega)) ?_ ?_
     ·rintro v gA ⟨h,aeL⟩;refine bu kR c5 ?_;refine fin _ _ (aQ h0) (aQ mz) (aQ mA) au ?_;simp only[eI];rw[<-List.append_assoc];exact aeL
     ·rintro ch ae ⟨h,_⟩;cases h
    ·rintro ch ae ⟨h,_⟩;cases h
   |flag f=>
    simp only[oQ]at lB
    cases f
    all_goals
     refine jE h0 mz mA kR c1 c2 uO lB ?_;refine dH A7 (B3 (w:=1) hb hB aa ai (by simp at hlen|-;omega)) ?_ ?_
     ·rintro v ae ⟨h,pa⟩;refine bu kR c5 ?_;exact fin _ _ (aQ h0) (aQ mz) (aQ mA) au pa
     ·rintro ch ae ⟨h,_⟩;cases h
  ·have c1:¬(i:Int)<xs.length:=aa;refine bR mA kR c1 ?_;refine aD dA ao ⟨rfl,?_⟩;rw[List.take_of_length_le aa]at hB;exact hB
def fK(kind ch:Nat)(p:List UInt8):List UInt8:=aw 1 kind++aw 2 ch++aw 4 p.length++p++[206]
def kP(kind ch:Nat)(p:List UInt8):(fK kind ch p).length=p.length+8:=by simp[fK,bJ];omega
def J8{kind ch:Nat}{p:List UInt8}(hk:kind<9223372036854775808)(hc:ch<9223372036854775808)(hp:p.length<=100000000):
 ay E 44 #[.int .i64 kind,.int .i64 ch,.string (B p)] U λe' ae=>e'=.returned (.string (B (fK kind ch p)))/\ae=U:=by
 refine aX func44 ntmps44 results44 λQ aD an aA=>?_;refine ag ?_;refineλb hb=>?_;refine ag ?_;refineλsb nP=>?_;have vY:iC U b [] (U.set b (.cells #[.pointer none,.slice none 0 0] 155 (0,0))):=.new rfl rfl;have aE:b≠sb:=bj nP aZ;have Ef:U.f sb=none:=by rw[Hp.aO _ (λe=>aE e.symm)]at nP;exact nP
 have qN:=vY.frame (o:=.cells ([Arg.BY kind,.short ch,.long p.length].map oQ).toArray 20 (0,0)) nP;obtain⟨J,fF⟩:∃J,J=U.set sb (.cells ([Arg.BY kind,.short ch,.long p.length].map oQ).toArray 20 (0,0)):=⟨_,rfl⟩;rw[<-fF]at qN;have tk:J.f b=none:=by rw[fF,Hp.aO _ aE];exact hb
 refine ag ?_;refine dH aet (HY tk qN (.inr ⟨sb,rfl,by rw[fF,Hp.bD]⟩) (by simp[lh,hk,hc];omega) al (by simp[dg,eI,bJ])) ?_ ?_
 ·rintro v ae ⟨h,uu⟩;refine ag ?_;refine aK (Ws tk uu (by simp[dg,eI,bJ];omega)) ?_;rintro v ae ⟨h,Kk⟩;refine ag ?_;refine aK (Wr (y:=206) tk Kk (by simp[dg,eI,bJ];omega)) ?_;rintro v ae ⟨h,hB4⟩;refine ag ?_;refine aT (Ns tk hB4 al (by simp[dg,eI,bJ];omega)) ?_;refine ag ?_;refine an (J:=U) aI (by rw[fF];exact kG Ef) ⟨?_,rfl⟩;refine ag ?_;simp[fK,dg,eI]
 ·rintro ch ae ⟨h,_⟩;cases h
def bK(ch cl me:Nat)(xs:List Arg):List UInt8:=fK 1 ch (aw 2 cl++aw 2 me++dg xs)
def arH{ch cl me:Nat}{xs:List Arg}(hv:Ay U xs v)(gq:∀a∈xs,lh a)(hn:xs.length<=1000)(hc:ch<9223372036854775808)(aH:cl<9223372036854775808)(aP:me<9223372036854775808)(fZ:(dg xs).length<=10000000):
 ay E 149 #[.int .i64 ch,.int .i64 cl,.int .i64 me,v] U λe' ae=>e'=.returned (.string (B (bK ch cl me xs)))/\ae=U:=by
 refine aX func149 ntmps149 results149 λQ aD an aA=>?_;refine ag ?_;refineλb hb=>?_;refine ag ?_;refineλsb nP=>?_;have vY:iC U b [] (U.set b (.cells #[.pointer none,.slice none 0 0] 155 (0,0))):=.new rfl rfl;have aE:b≠sb:=bj nP aZ;have Ef:U.f sb=none:=by rw[Hp.aO _ (λe=>aE e.symm)]at nP;exact nP
 have qN:=vY.frame (o:=.cells ([Arg.short cl,.short me].map oQ).toArray 20 (0,0)) nP;obtain⟨J,fF⟩:∃J,J=U.set sb (.cells ([Arg.short cl,.short me].map oQ).toArray 20 (0,0)):=⟨_,rfl⟩;rw[<-fF]at qN;have hle:U.le J:=by rw[fF];exact kG Ef
 have tk:J.f b=none:=by rw[fF,Hp.aO _ aE];exact hb
 have Hn:Ay J xs v:=hv.imp id λ⟨x,h1,h2⟩=>⟨x,h1,hle _ _ h2⟩;refine ag ?_;refine aK (HY (xs:=[.short cl,.short me]) tk qN (.inr ⟨sb,rfl,by rw[fF,Hp.bD]⟩) (by simp[lh,aH,aP]) al (by simp[dg,eI,bJ])) ?_;rintro v1 ae ⟨h,uu⟩;refine ag ?_;refine aK (HY tk uu Hn gq hn (by simp[dg,eI,bJ]at fZ|-;omega)) ?_;rintro v2 ae ⟨h,Kk⟩;refine ag ?_;refine aT (Ns tk Kk ?_ ?_) ?_
 ·simp[dg,eI,aw]
 ·simp[dg,eI,bJ]at fZ|-;omega
 refine ag ?_;refine aT (J8 (kind:=1) aa hc ?_) ?_
 ·simp[dg,eI,bJ]at fZ|-;omega
 refine ag ?_;refine an (J:=U) aI hle ⟨?_,rfl⟩;refine ag ?_;simp[bK,dg,eI]
end
section
open Go.Conc
variable {x:Array Operand}{a:Array TypeId}
def aiH:cW (.call ⟨.builtin .min,x,a⟩)=false:=bp
def aiG:cW (.call ⟨.builtin .max,x,a⟩)=false:=bp
attribute [go_sem] aiH aiG
variable {P:Program}{E:Env P}{I:av}{ds:List Deferred}{U:Hp}{dst:Option Tmp}{ty:TypeId}{pos:String}{af:Array Edge}{g:Option (Nat×Bool)}{nx:av->List Deferred->Hp->Prop}{pn:List PanicEntry->Hp->Prop}{x y:Operand}{cB:Array TypeId}{a b:Int}
def TY(hx:ak I x=.int .i64 a)(hy:ak I y=.int .i64 b)(h:nx (aB I dst (.int .i64 (min a b))) ds U):aU E ⟨dst,.call ⟨.builtin .min,#[x,y],cB⟩,ty,pos,af,g⟩ I ds U nx pn:=by
 show wpOp E _ I ds U nx pn;unfold wpOp;simp only[execOp,resolve,aG,bt,invoke];show wpS P (do pure (Next.value (<-Builtin.min_ cB ty (#[x,y].map (ak I)))):Sem Next) _ _ _;rw[lN];have e1: #[x,y].map (ak I)= #[.int .i64 a,.int .i64 b]:=by simp[hx,hy]
 rw[e1];simp only[Builtin.min_,List.foldlM,Builtin.min2];have e2:(if b<a then b else a)=min a b:=aa;rw[e2];exact h
def akJ(hx:ak I x=.int .i64 a)(hy:ak I y=.int .i64 b)(h:nx (aB I dst (.int .i64 (max a b))) ds U):aU E ⟨dst,.call ⟨.builtin .max,#[x,y],cB⟩,ty,pos,af,g⟩ I ds U nx pn:=by
 show wpOp E _ I ds U nx pn;unfold wpOp;simp only[execOp,resolve,aG,bt,invoke];show wpS P (do pure (Next.value (<-Builtin.max_ cB ty (#[x,y].map (ak I)))):Sem Next) _ _ _;rw[lN];have e1: #[x,y].map (ak I)= #[.int .i64 a,.int .i64 b]:=by simp[hx,hy]
 rw[e1];simp only[Builtin.max_,List.foldlM,Builtin.max2];have e2:(if b>a then b else a)=max a b:=aa;rw[e2];exact h
end
section
open Go.Proofs
def eU(ch m:Nat):Nat->List UInt8->List UInt8
 |0,_=>[]
 |f+1,b=>if b=[]then []else fK 3 ch (b.take m)++eU ch m f (b.drop m)
def mv(ch:Nat)(body:List UInt8)(size:Nat):List UInt8:=fK 2 ch (aw 2 60++aw 2 0++aw 8 body.length)++eU ch (size-8) body.length body
def MV(ch m:Nat)(hm:1<=m):∀(f g:Nat) (b:List UInt8),b.length<=f->b.length<=g->eU ch m f b=eU ch m g b:=by
 intro f
 induction f with
 |zero=>
  intro g b hf _;have:b=[]:=List.eq_nil_of_length_eq_zero aa;subst this
  cases g<;>simp[eU]
 |succ f ih=>
  intro g b hf hg
  cases g with
  |zero=>
   have:b=[]:=List.eq_nil_of_length_eq_zero aa;subst this;simp[eU]
  |succ g=>
   simp only[eU];split
   ·rfl
   ·rename_i hb;have:b.length≠0:=λe=>hb (List.eq_nil_of_length_eq_zero e);rw[ih g (b.drop m) (by simp;omega) (by simp;omega)]
def US(ch m:Nat)(hm:1<=m):∀(f:Nat) (b:List UInt8),b.length<=f->(eU ch m f b).length<=9*b.length:=by
 intro f
 induction f with
 |zero=>intro b h;simp[eU]
 |succ f ih=>
  intro b h;simp only[eU];split
  ·simp
  ·rename_i hb;have h0:b.length≠0:=λe=>hb (List.eq_nil_of_length_eq_zero e);have:=ih (b.drop m) (by simp;omega);simp only[List.length_append,kP,List.length_take,List.length_drop]at this|-;rcases Nat.le_total m b.length with h1|h1
   ·rw[Nat.min_eq_left h1];omega
   ·rw[Nat.min_eq_right h1];omega
def P8{E:Env prog}{U:Hp}{ch size:Nat}{body:List UInt8}(hc:ch<9223372036854775808)(hs:9<=size)(iH:size<=1000000)(hb:body.length<=1000000):
 ay E 292 #[.int .i64 ch,.string (B body),.int .i64 size] U λe' ae=>e'=.returned (.string (B (mv ch body size)))/\ae=U:=by
 refine aX func292 ntmps292 results292 λQ aD an aA=>?_;refine ag ?_;refineλb eQ=>?_;refine ag ?_;refineλsb nP=>?_;have vY:iC U b [] (U.set b (.cells #[.pointer none,.slice none 0 0] 155 (0,0))):=.new rfl rfl;have aE:b≠sb:=bj nP aZ;have Ef:U.f sb=none:=by rw[Hp.aO _ (λe=>aE e.symm)]at nP;exact nP
 have qN:=vY.frame (o:=.cells ([Arg.short 60,.short 0,.mM body.length].map oQ).toArray 20 (0,0)) nP;obtain⟨J,fF⟩:∃J,J=U.set sb (.cells ([Arg.short 60,.short 0,.mM body.length].map oQ).toArray 20 (0,0)):=⟨_,rfl⟩;rw[<-fF]at qN;have hle:U.le J:=by rw[fF];exact kG Ef
 have tk:J.f b=none:=by rw[fF,Hp.aO _ aE];exact eQ
 refine ag ?_;refine aK (HY (xs:=[.short 60,.short 0,.mM body.length]) tk qN (.inr ⟨sb,rfl,by rw[fF,Hp.bD]⟩) (by simp[lh];omega) al (by simp[dg,eI,bJ])) ?_;rintro v1 ae ⟨h,uu⟩;refine ag ?_;refine aT (Ns tk uu (by simp[dg,eI,aw]) (by simp[dg,eI,bJ])) ?_;refine ag ?_;refine aT (J8 (kind:=2) aa hc (by simp[dg,eI,bJ])) ?_;have c1:IntKind.wrap .i64 ((size:Int)-8)=((size-8:Nat):Int):=cH;refine aJ c1 ?_;refine di (λm I ds ae=>ds=[]/\ae=J/\∃r acc,m=r.length/\r.length<=body.length/\I 0=.int .i64 ch/\I 1=.string (B r)/\I 8=.string (B acc)/\I 9=.int .i64 ((size-8:Nat):Int)/\acc.length+9*r.length<=100000000/\acc++eU ch (size-8) r.length r=mv ch body size) body.length ?_ ?_
 ·refine⟨rfl,rfl,body,fK 2 ch (dg [.short 60,.short 0,.mM body.length]),rfl,Nat.le_refl _,?_,?_,?_,?_,?_,?_⟩
  ·exact au
  ·exact au
  ·exact au
  ·exact au
  ·simp[kP,dg,eI,bJ];omega
  ·simp[mv,dg,eI]
 ·rintro m I ds ae X ⟨rfl,rfl,r,acc,rfl,By,h0,h1,h8,h9,hal,RQ⟩ hX
  cases hr:decide (r=[])with
  |true=>
   obtain rfl:r=[]:=aW hr;have c2:¬(((0:Nat):Int)>0):=al;refine bu h1 h8 ?_;refine an (J:=U) aI hle ⟨?_,rfl⟩;simp only[go_sem,seval,<-RQ];simp[eU]
  |false=>
   have eX:r≠[]:=aW hr;have hl:0<r.length:=Nat.pos_of_ne_zero λe=>eX (List.eq_nil_of_length_eq_zero e);have c2:(r.length:Int)>0:=aa;refine bR h1 h9 c2 ?_;have Ll:min ((size-8:Nat):Int) (r.length:Int)=((min (size-8) r.length:Nat):Int):=aa;refine TY (a:=((size-8:Nat):Int)) (b:=(r.length:Int)) au au ?_;obtain⟨k,hk⟩:∃k,k=min (size-8) r.length:=⟨_,rfl⟩;rw[Ll,<-hk];have d0:(0:Int)<=k:=aa;have d1:(k:Int)<=r.length:=aa;have d2:(0:Int)<=r.length:=aa;refine lI h0 h1 h8 d0 d1 ?_;rw[Nat.sub_zero];refine aT (J8 (kind:=3) aa hc (by simp;omega)) ?_;have c3:acc.length+(fK 3 ch (r.take k)).length<=9223372036854775807:=by rw[kP];simp;omega
   refine fV h1 d0 d1 c3 ?_;have afS:List.take (r.length-k) (r.drop k)=r.drop k:=List.take_of_length_le al;refine hX (r.drop k).length _ _ _ _ (by simp;omega) ⟨rfl,rfl,r.drop k,acc++fK 3 ch (r.take k),rfl,by simp;omega,?_,?_,?_,?_,?_,?_⟩ ao
   ·exact aQ h0
   ·refine ag ?_;rw[afS]
   ·exact au
   ·exact aQ h9
   ·rw[List.length_append,kP];simp;omega
   ·rw[<-RQ,List.append_assoc];congr 1;obtain⟨f,hf⟩:∃f,r.length=f+1:=⟨r.length-1,aa⟩;rw[hf];simp only[eU,if_neg eX]
    have e1:r.take (size-8)=r.take k:=by
     rw[hk];rcases Nat.le_total (size-8) r.length with h|h
     ·rw[Nat.min_eq_left h]
     ·rw[Nat.min_eq_right h,List.take_of_length_le h,List.take_length]
    have e2:r.drop (size-8)=r.drop k:=by
     rw[hk];rcases Nat.le_total (size-8) r.length with h|h
     ·rw[Nat.min_eq_left h]
     ·rw[Nat.min_eq_right h,List.drop_eq_nil_of_le h,List.drop_length]
    rw[e1,e2];congr 1;exact MV ch (size-8) aa _ _ _ (Nat.le_refl _) (by simp;omega)
end
section
open Go.Conc
def Hp.eC(U φ:Hp):Prop:=∀b,U.f b=none\/φ.f b=none
def Hp.bL(U φ:Hp):Hp:=⟨λb=>match U.f b with|some o=>some o|none=>φ.f b⟩
variable {U φ:Hp}{b:Nat}{o:Obj}
def Hp.jT(h:U.f b=some o):(U.bL φ).f b=some o:=by simp[Hp.bL,h]
def Hp.qw(h:U.f b=none):(U.bL φ).f b=φ.f b:=by simp[Hp.bL,h]
def Hp.ajZ(U φ:Hp):U.le (U.bL φ):=λ_ _ h=>Hp.jT h
def Hp.vc(d:U.eC φ):φ.le (U.bL φ):=λb o h=>by
 rcases d b with e|e
 ·rw[Hp.qw e];exact h
 ·rw[e]at h;cases h
def Hp.IC(h:(U.bL φ).f b=some o):U.f b=some o\/(U.f b=none/\φ.f b=some o):=by
 cases e:U.f b with
 |some x=>rw[Hp.jT e]at h;exact .inl h
 |none=>rw[Hp.qw e]at h;exact .inr ⟨rfl,h⟩
def Hp.arh{J:Hp}(h:J.le U)(d:U.eC φ):(J.bL φ).le (U.bL φ):=by
 intro b o hb;rcases Hp.IC hb with h1|⟨_,h1⟩
 ·exact Hp.jT (h b o h1)
 ·rcases d b with e|e
  ·rw[Hp.qw e];exact h1
  ·rw[e]at h1;cases h1
def Hp.eC.iQ{J:Hp}(d:U.eC φ)(h:J.le U):J.eC φ:=by
 intro b;rcases d b with e|e
 ·left
  cases hb:J.f b with
  |none=>rfl
  |some o=>have:=h b o hb;rw[e]at this;cases this
 ·exact .inr e
variable {au2:Nat->Prop}{w:World}
def cR.split(h:cR au2 w (U.bL φ))(d:U.eC φ):cR (λb=>au2 b\/(φ.f b).isSome=true) w U:=by
 refine⟨λhb=>h.heap (Hp.jT hb),λb hj=>?_,λb hj=>?_⟩
 ·rcases hj with hj|hj
  ·cases hb:U.f b with
   |none=>rfl
   |some o=>have:=h.fP b hj;rw[Hp.jT hb]at this;cases this
  ·rcases d b with e|e
   ·exact e
   ·rw[e]at hj;cases hj
 ·rcases hj with hj|hj
  ·exact h.low b hj
  ·obtain⟨o,ho⟩:=Option.isSome_iff_exists.1 hj;exact h.lt (Hp.vc d b o ho)
def cR.arn(h:cR (λb=>au2 b\/(φ.f b).isSome=true) w U)(hJ:∀b,au2 b->φ.f b=none)(BD:∀b o,φ.f b=some o->w.heap[b]? =some o):cR au2 w (U.bL φ)/\U.eC φ:=by
 refine⟨⟨λ{b o} hb=>?_,λb hj=>?_,λb hj=>h.low b (.inl hj)⟩,λb=>?_⟩
 ·rcases Hp.IC hb with h1|⟨_,h1⟩
  ·exact h.heap h1
  ·exact BD b o h1
 ·rw[Hp.qw (h.fP b (.inl hj))];exact hJ b hj
 ·cases e:φ.f b with
  |none=>exact .inr rfl
  |some o=>exact .inl (h.fP b (.inr (by rw[e];rfl)))
def iD.fewer{J':Nat->Prop}{n:Nat}{e:Event}(hJ:∀b,au2 b->J' b)(h:iD J' n e):iD au2 n e:=by
 unfold iD at h|-
 cases hl:e.loc<;>rw[hl]at h<;>first|exact h|exact⟨λx=>h.1 (hJ _ x),h.2⟩
variable {P:Program}
def gZ.frame{main:Bool}{g:Goroutine}{X:Goroutine->Hp->Prop}(h:gZ P main g U X)(d:U.eC φ):
 gZ P main g (U.bL φ) λg' J=>∃ae,ae.eC φ/\J=ae.bL φ/\X g' ae:=by
 intro au2 w hs;have:=h _ w (hs.split d)
 cases hg:stepG P main g w<;>rw[hg]at this<;>first|exact this.elim|skip
 obtain⟨ae,h1,h2,h3,h4,h5⟩:=this
 have hJ:∀b,au2 b->φ.f b=none:=λb hj=>by
  have:=hs.fP b hj
  cases e:U.f b with
  |none=>rw[Hp.qw e]at this;exact this
  |some o=>rw[Hp.jT e]at this;cases this
 obtain⟨k1,k2⟩:=h1.arn hJ (λb o hb=>by rw[h2.hidden b (.inr (by rw[hb];rfl))];exact hs.heap (Hp.vc d b o hb));exact⟨_,k1,⟨λb hj=>h2.hidden b (.inl hj),h2.os,h2.tape,h2.output,h2.um⟩,λe he=>(h3 e he).fewer λb=>.inl,h4,ae,k2,rfl,h5⟩
def Env.frame {P:Program}(E:Env P)(φ:Hp):Env P where
 main:=E.main
 st g U m T:=U.eC φ/\E.st g (U.bL φ) m T
 iQ:=λ⟨d,h⟩ k=>⟨d.iQ k,E.iQ h (Hp.arh k d)⟩
 own:=by rintro g U m T X ⟨d,h⟩ hr hX;obtain⟨N,m',T',g',J,h1,h2,h3,ae,d',rfl,hx⟩:=E.own g _ m T _ h hr (hX.frame d);exact⟨N,m',T',g',ae,h1,⟨d',h2⟩,h3,hx⟩
variable {a:Addr}
def PQ{v:Value}(h:U.cell? a=some v):(U.bL φ).cell? a=some v:=by obtain⟨c,e,z,hb,hs,hv⟩:=AT h;simp[Hp.cell?,Hp.jT hb,hs,hv]
def Q3(hb:U.f a.block=some o):(U.bL φ).frozen? a=U.frozen? a:=by simp only[Hp.frozen?,Hp.jT hb,hb]
def apz{r:Nat}(hb:U.f r=some o):(U.bL φ).shape? r=U.shape? r:=by simp only[Hp.shape?,Hp.jT hb,hb]
def TZ(hb:U.f b=some o)(g:Obj->Obj):(U.bL φ).modify b g=(U.modify b g).bL φ:=by
 simp only[Hp.modify,Hp.bL,Hp.mk.injEq]
 funext x
 by_cases e:x=b
 ·subst e;simp[hb]
 ·simp[e]
def Ij(b:Nat)(o:Obj):(U.bL φ).set b o=(U.set b o).bL φ:=by
 simp only[Hp.set,Hp.bL,Hp.mk.injEq]
 funext x
 by_cases e:x=b
 ·subst e;simp
 ·simp[e]
def apr(hb:U.f a.block=some o)(v:Value):(U.bL φ).setCell a v=(U.setCell a v).bL φ:=TZ hb _
def adB(hb:U.f a.block=some o)(n:Nat):(U.bL φ).freeze a n=(U.freeze a n).bL φ:=by
 unfold Hp.freeze;split
 ·rfl
 ·exact TZ hb _
def JM(d:U.eC φ)(hb:φ.f b=none):(U.set b o).eC φ:=by
 intro x;by_cases e:x=b
 ·subst e;exact .inr hb
 ·simpa[Hp.set,e]using d x
def Qj(d:U.eC φ)(hb:U.f b=some o):φ.f b=none:=by
 rcases d b with e|e
 ·rw[e]at hb;cases hb
 ·exact e
def Qi(g:Obj->Obj)(d:U.eC φ):(U.modify b g).eC φ:=by
 intro x;by_cases e:x=b
 ·subst e;rcases d x with e|e
  ·exact .inl (by simp[Hp.modify,e])
  ·exact .inr e
 ·simpa[Hp.modify,e]using d x
def arW{α:Type}{Q:α->Hp->Prop}{H:Halt->Hp->Prop}:
 ∀(s:Sem α) (U:Hp),U.eC φ->wpS P s Q H U->wpS P s (λa J=>∃ae,ae.eC φ/\J=ae.bL φ/\Q a ae) (λh J=>∃ae,ae.eC φ/\J=ae.bL φ/\H h ae) (U.bL φ):=by
 intro s
 induction s with
 |pure a=>exactλU d h=>⟨U,d,rfl,h⟩
 |load m a k ih=>exactλU d ⟨v,hv,h⟩=>⟨v,PQ hv,ih v U d h⟩
 |store m a v k ih=>
  intro U d h
  have key:(∃u,U.cell? a=some u)/\U.frozen? a=false/\wpS P k Q H (U.setCell a v)->(∃u,(U.bL φ).cell? a=some u)/\(U.bL φ).frozen? a=false/\wpS P k (λa J=>∃ae,ae.eC φ/\J=ae.bL φ/\Q a ae) (λh J=>∃ae,ae.eC φ/\J=ae.bL φ/\H h ae) ((U.bL φ).setCell a v):=by rintro⟨⟨u,hu⟩,hz,h⟩;obtain⟨c,e,z,hb,_,_⟩:=AT hu;refine⟨⟨u,PQ hu⟩,by rw[Q3 hb];exact hz,?_⟩;rw[apr hb];exact ih _ (Qi _ d) h
  cases v<;>first|exact h.elim|exact key h
 |new o k ih=>
  intro U d h b hb;rw[Ij]
  have hs:U.f b=none:=by
   cases e:U.f b with
   |none=>rfl
   |some x=>rw[Hp.jT e]at hb;cases hb
  exact ih b _ (JM d (by rw[Hp.qw hs]at hb;exact hb)) (h b hs)
 |shape r k ih=>
  rintro U d ⟨h1,h⟩;obtain⟨o,ho⟩:=Option.isSome_iff_exists.1 h1;refine⟨by rw[Hp.jT ho];rfl,?_⟩;rw[apz ho];exact ih _ _ d h
 |freeze a n k ih=>
  rintro U d ⟨h1,h⟩;obtain⟨o,ho⟩:=Option.isSome_iff_exists.1 h1;refine⟨by rw[Hp.jT ho];rfl,?_⟩;rw[adB ho];refine ih _ ?_ h;unfold Hp.freeze;split
  ·exact d
  ·exact Qi _ d
 |frozen a k ih=>
  rintro U d ⟨h1,h⟩;obtain⟨o,ho⟩:=Option.isSome_iff_exists.1 h1;refine⟨by rw[Hp.jT ho];rfl,?_⟩;rw[Q3 ho];exact ih _ _ d h
 |getObj r k ih=>exactλU d ⟨o,ho,hc,h⟩=>⟨o,Hp.jT ho,hc,ih _ _ d h⟩
 |setObj r o k ih=>
  rintro U d ⟨o',ho,hc,h⟩;refine⟨o',Hp.jT ho,hc,?_⟩;rw[Ij];exact ih _ (JM d (Qj d ho)) h
 |choose q k ih=>
  intro U d h;unfold wpS at h|-;split
  ·rename_i hf;rw[if_pos hf]at h;exact ih _ _ d h
  ·rename_i hf;rw[if_neg hf]at h;exactλt=>ih _ _ d (h t)
 |sys c k ih=>exactλU d h=>h.elim
 |program k ih=>exactλU d h=>ih _ _ d h
 |mark m k ih=>exactλU d h=>⟨h.1,ih _ d h.2⟩
 |halt h=>exactλU d x=>⟨U,d,rfl,x⟩
def ay.kQ{E:Env P}{f:FuncId}{args:Array Value}{R:Fin->Hp->Prop}(h:ay (E.frame φ) f args U R)(d:U.eC φ):
 ay E f args (U.bL φ) λe J=>∃ae,ae.eC φ/\J=ae.bL φ/\R e ae:=by
 intro cs m T hm;obtain⟨N,m',T',g',ae,h1,⟨d',h2⟩,e,fr,rfl,hf,hl,hR⟩:=h cs m T ⟨d,hm⟩;refine⟨N,m',T',_,_,h1,h2,e,fr,rfl,hf,?_,ae,d',rfl,hR⟩
 cases e with
 |returned v=>
  obtain⟨a1,a2,a3,fn,a4,a5⟩:=hl;exact⟨a1,a2,a3,fn,a4,NU (λv' J ⟨gA,_,e1,e2,e3⟩=>⟨e2,by rw[e1,e3]⟩) (λ_ _ ⟨_,_,_,x⟩=>x) _ _ (arW _ _ d' a5)⟩
 |panicked ch=>exact hl
noncomputable def Hp.only(U:Hp)(D:Nat->Prop):Hp:=⟨λb=>open Classical in if D b then U.f b else none⟩
def Hp.amE(U:Hp)(D:Nat->Prop):(U.only D).le U:=λb o h=>by
 simp only[Hp.only]at h;split at h
 ·exact h
 ·cases h
def Hp.HT{D:Nat->Prop}(h:U.f b=some o)(hb:D b):(U.only D).f b=some o:=by simp[Hp.only,hb,h]
def Hp.amD(U:Hp)(D:Nat->Prop):(U.only D).eC (U.only λb=>¬D b):=λb=>by
 by_cases h:D b
 ·right;simp[Hp.only,h]
 ·left;simp[Hp.only,h]
def Hp.amF(U:Hp)(D:Nat->Prop):(U.only D).bL (U.only λb=>¬D b)=U:=by
 show Hp.mk _=Hp.mk _;congr 1
 funext b
 by_cases h:D b
 ·simp only[Hp.only,h,if_true,not_true,if_false]
  cases U.f b<;>rfl
 ·simp[Hp.only,h]
structure dO (S Still Q:Loc->Prop) (jw o B:Nat) (K:Nat->Prop) (t:Trace):Prop where
 clean:∀said,¬Race said t
 known:∀i a,touchAt t i=some a->a.loc.isMemory=true->K i\/(S a.loc/\a.kind=.atomic/\¬t.counts i)\/(t.g? i=some o/\a.write=false/\Still a.loc)
 wrote:∀i a,touchAt t i=some a->a.write=true->Still a.loc->Knows t o i
 pure:∀i a,touchAt t i=some a->Q a.loc->a.kind≠.plain\/Knows t jw i
 seen:∀op∈t,op.act.low B
section
variable {S Still Cy Q:Loc->Prop}{jw o B h:Nat}{K K':Nat->Prop}{t u:Trace}
def dO.mono {B':Nat}(H:dO S Still Q jw o B K t)(hB:B<=B'):dO S Still Q jw o B' K t:=⟨H.clean,H.known,H.wrote,H.pure,λop aS=>MemAct.low_mono hB (H.seen op aS)⟩
def dO.apB {S':Loc->Prop}(H:dO S Still Q jw o B K t)(hS:∀l,S l->S' l):dO S' Still Q jw o B K t:=
 ⟨H.clean,λi a ha hm=>(H.known i a ha hm).imp id (λx=>x.imp (λy=>⟨hS _ y.1,y.2⟩) id),H.wrote,H.pure,H.seen⟩
def dO.old_known (H:dO S Still Q jw o B K t)(hK:∀i,K i->K' i){i:Nat}{a:Touch}{x:MemOp}(cY:t[i]? =some x)(bF:x.act.touch?=some a)(hm:a.loc.isMemory=true):
 K' i\/(S a.loc/\a.kind=.atomic/\¬(t++u).counts i)\/((t++u).g? i=some o/\a.write=false/\Still a.loc):=by
 have hi:=lt_size_of_getElem? cY;rcases H.known i a (by rw[touchAt_of cY];exact bF) hm with x|⟨x,y,z⟩|⟨x,y,z⟩
 ·exact .inl (hK i x)
 ·exact .inr (.inl ⟨x,y,λc=>z ((counts_old hi).1 c)⟩)
 ·exact .inr (.inr ⟨by rw[g?_old hi];exact x,y,z⟩)
def dO.appMute (H:dO S Still Q jw o B K t)(hK:∀i,K i->K' i)(hn:∀op∈u,op.act.touch?=none)(hl:∀op∈u,op.act.low B):dO S Still Q jw o B K' (t++u):=by
 refine⟨λsaid=>noRace_appendMute (H.clean said) hn,λi a ha hm=>?_,λi a ha hw hS=>?_,λi a ha hq=>?_,seen_app H.seen hl⟩
 ·obtain⟨x,hx,bF⟩:=touch_of ha;rcases getElem?_append_cases hx with⟨_,cY⟩|⟨_,du⟩
  ·exact H.old_known hK cY bF hm
  ·rw[hn x du]at bF;cases bF
 ·obtain⟨x,hx,bF⟩:=touch_of ha;rcases getElem?_append_cases hx with⟨_,cY⟩|⟨_,du⟩
  ·exact(H.wrote i a (by rw[touchAt_of cY];exact bF) hw hS).app u
  ·rw[hn x du]at bF;cases bF
 ·obtain⟨x,hx,bF⟩:=touch_of ha;rcases getElem?_append_cases hx with⟨_,cY⟩|⟨_,du⟩
  ·exact(H.pure i a (by rw[touchAt_of cY];exact bF) hq).imp id (·.app u)
  ·rw[hn x du]at bF;cases bF
def dO.appRead (H:dO S Still Q jw o B K t)(hK:∀i,K i->K' i)(Kx:∀l,Still l->¬Q l)(hu:∀op∈u,op.g=o)(hr:∀op∈u,∀b,op.act.touch?=some b->b.write=false/\Still b.loc)(hl:∀op∈u,op.act.low B):
 dO S Still Q jw o B K' (t++u):=by
 refine⟨λsaid=>noRace_append (H.clean said) hu λi a ha op aS b hb hc=>?_,λi a ha hm=>?_,λi a ha hw hS=>?_,λi a ha hq=>?_,seen_app H.seen hl⟩
 ·obtain⟨mC,Bi⟩:=hr op aS b hb;rcases hc.2.2.1 with x|x
  ·exact H.wrote i a ha x (hc.1▸Bi)
  ·rw[mC]at x;cases x
 ·obtain⟨x,hx,bF⟩:=touch_of ha;rcases getElem?_append_cases hx with⟨_,cY⟩|⟨_,du⟩
  ·exact H.old_known hK cY bF hm
  ·exact .inr (.inr ⟨by rw[g?_of hx,hu x du],hr x du a bF⟩)
 ·obtain⟨x,hx,bF⟩:=touch_of ha;rcases getElem?_append_cases hx with⟨_,cY⟩|⟨_,du⟩
  ·exact(H.wrote i a (by rw[touchAt_of cY];exact bF) hw hS).app u
  ·rw[(hr x du a bF).1]at hw;cases hw
 ·obtain⟨x,hx,bF⟩:=touch_of ha;rcases getElem?_append_cases hx with⟨_,cY⟩|⟨_,du⟩
  ·exact(H.pure i a (by rw[touchAt_of cY];exact bF) hq).imp id (·.app u)
  ·exact absurd hq (Kx _ (hr x du a bF).2)
def dO.appH (H:dO S Still Q jw o B (Knows t h) t)(hu:∀op∈u,op.g=h)(hs:∀op∈u,∀b,op.act.touch?=some b->(S b.loc->b.kind≠.plain)/\(Still b.loc->b.write=false)/\(Q b.loc->b.kind≠.plain))
 (hl:∀op∈u,op.act.low B):dO S Still Q jw o B (Knows (t++u) h) (t++u):=by
 refine⟨λsaid=>noRace_append (H.clean said) hu λi a ha op aS b hb hc=>?_,λi a ha hm=>?_,λi a ha hw hS=>?_,λi a ha hq=>?_,seen_app H.seen hl⟩
 ·obtain⟨Bi,hbT,_⟩:=hs op aS b hb;rcases H.known i a ha hc.2.1 with hk|⟨x,y,_⟩|⟨_,x,y⟩
  ·exact hk
  ·obtain⟨_,_,_,xM⟩:=hc;rw[y]at xM;rcases xM with z|z|⟨_,z,_⟩
   ·cases z
   ·exact absurd z (Bi (by rw[<-‹a.loc=b.loc›];exact x))
   ·cases z
  ·have mC:=hbT (hc.1▸y);rcases hc.2.2.1 with z|z
   ·rw[x]at z;cases z
   ·rw[mC]at z;cases z
 ·obtain⟨x,hx,bF⟩:=touch_of ha;rcases getElem?_append_cases hx with⟨_,cY⟩|⟨_,du⟩
  ·exact H.old_known (λ_ x=>x.app u) cY bF hm
  ·have:=knows_own hx;rw[hu x du]at this;exact .inl this
 ·obtain⟨x,hx,bF⟩:=touch_of ha;rcases getElem?_append_cases hx with⟨_,cY⟩|⟨_,du⟩
  ·exact(H.wrote i a (by rw[touchAt_of cY];exact bF) hw hS).app u
  ·rw[(hs x du a bF).2.1 hS]at hw;cases hw
 ·obtain⟨x,hx,bF⟩:=touch_of ha;rcases getElem?_append_cases hx with⟨_,cY⟩|⟨_,du⟩
  ·exact(H.pure i a (by rw[touchAt_of cY];exact bF) hq).imp id (·.app u)
  ·exact .inl ((hs x du a bF).2.2 hq)
def dO.pass {s r:Nat}(H:dO S Still Q jw r B (Knows t s) t)(xJ:∀l,Cy l->l.isMemory=true/\¬S l)(hn:∀op∈u,op.act.touch?=none)(hl:∀op∈u,op.act.low B)
 (he:∀i,Knows t s i->Knows (t++u) r i):dO S Cy Q jw s B (Knows (t++u) r) (t++u):=by
 refine⟨λsaid=>noRace_appendMute (H.clean said) hn,λi a ha hm=>?_,λi a ha hw hS=>?_,λi a ha hq=>?_,seen_app H.seen hl⟩
 ·obtain⟨x,hx,bF⟩:=touch_of ha;rcases getElem?_append_cases hx with⟨hi,cY⟩|⟨_,du⟩
  ·rcases H.known i a (by rw[touchAt_of cY];exact bF) hm with y|⟨y,z,v⟩|⟨y,z,v⟩
   ·exact .inl (he i y)
   ·exact .inr (.inl ⟨y,z,λc=>v ((counts_old hi).1 c)⟩)
   ·have:=knows_own hx;rw[show x.g=r from by have:=g?_of cY;rw[y]at this;exact(Option.some.inj this).symm]at this;exact .inl this
  ·rw[hn x du]at bF;cases bF
 ·obtain⟨x,hx,bF⟩:=touch_of ha;rcases getElem?_append_cases hx with⟨hi,cY⟩|⟨_,du⟩
  ·rcases H.known i a (by rw[touchAt_of cY];exact bF) (xJ _ hS).1 with y|⟨y,_⟩|⟨_,z,_⟩
   ·exact y.app u
   ·exact absurd y (xJ _ hS).2
   ·rw[hw]at z;cases z
  ·rw[hn x du]at bF;cases bF
 ·obtain⟨x,hx,bF⟩:=touch_of ha;rcases getElem?_append_cases hx with⟨_,cY⟩|⟨_,du⟩
  ·exact(H.pure i a (by rw[touchAt_of cY];exact bF) hq).imp id (·.app u)
  ·rw[hn x du]at bF;cases bF
end
section
variable {S Q:Loc->Prop}{jw o B:Nat}{t u:Trace}
def dO.ofPast (h:Past S B t)(hQ:∀l,¬Q l):dO S (λ_=>False) Q jw o B (Knows t 0) t:=by
 refine⟨h.clean,λi a ha hm=>?_,λ_ _ _ _ x=>x.elim,λi a ha x=>absurd x (hQ _),h.seen⟩;by_cases hk:Knows t 0 i
 ·exact .inl hk
 ·rcases h.known i a ha hm with x|⟨x,y⟩
  ·exact absurd x hk
  ·refine .inr (.inl ⟨x,y,λhc=>hk ?_⟩);obtain⟨op,aS,_⟩:=touch_of ha;by_cases e:op.g=0
   ·rw[<-e];exact knows_own aS
   ·obtain⟨j,hj,hb⟩:=h.over i op.g (g?_of aS) e hc;unfold Trace.g? at hj;obtain⟨z,hz,LO⟩:=Option.map_eq_some_iff.1 hj;exact⟨j,z,hz,LO,.inr hb⟩
def dO.toPast (H:dO S (λ_=>False) Q jw o B (Knows t 0) t)(hd:Deaf t 0=0):Past S B t:=by
 refine⟨H.clean,λi a ha hm=>?_,λi g hg aE hc=>?_,hd,H.seen⟩
 ·rcases H.known i a ha hm with x|⟨x,y,_⟩|⟨_,_,x⟩
  ·exact .inl x
  ·exact .inr ⟨x,y⟩
  ·exact x.elim
 ·obtain⟨x,hx,hm,_⟩:=id hc;rcases H.known i x hx hm with⟨q,z,hq,hz,hb⟩|⟨_,_,y⟩|⟨_,_,y⟩
  ·refine⟨q,by rw[g?_of hq,hz],?_⟩;rcases hb with rfl|hb
   ·rw[g?_of hq,hz]at hg;exact absurd (Option.some.inj hg).symm aE
   ·exact hb
  ·exact absurd hc y
  ·exact y.elim
def Ty {s r:Nat}(hs:Deaf t s=0)(hr:Deaf t r=0)(fh:FuncId)(ph:String)(fj:FuncId)(pj:String)(c k cap:Nat){i:Nat}(h:Knows t s i):Knows (t++met s r fh ph fj pj c k cap) r i:=by
 have hq:∀g,∀op∈met s r fh ph fj pj c k cap,∀d,deafStep g d op=d:=λg=>met_quiet s r fh ph fj pj c k cap g;have e0:(t++met s r fh ph fj pj c k cap)[t.size]? =some {g:=s,fn:=fh,pos:=ph,act:=.send c k}:=by simp[met]
 have e3:(t++met s r fh ph fj pj c k cap)[t.size+3]? =some {g:=r,fn:=fj,pos:=pj,act:=.recvDone c k}:=by simp[met]
 have A0:HappensBefore (t++met s r fh ph fj pj c k cap) t.size (t.size+3):=
  Relation.TransGen.single (.inr ⟨.handOver (act?_of e0) (act?_of e3),⟨s,g?_of e0,by rw[deaf_old (Nat.le_refl _)];exact hs⟩,⟨r,g?_of e3,by rw[deaf_quiet (hq r) 3 (by simp[met])];exact hr⟩⟩)
 exact⟨t.size+3,_,e3,rfl,.inr ((h.hb_new (Nat.le_refl _) e0 rfl).trans A0)⟩
def Oh {s r:Nat}(fh:FuncId)(ph:String)(fj:FuncId)(pj:String)(c k cap g:Nat):Deaf (t++met s r fh ph fj pj c k cap) g=Deaf t g:=Deaf_quiet (met_quiet s r fh ph fj pj c k cap g)
def kS (h c:Nat)(fh:FuncId)(ph:String)(fc:FuncId):Trace:=#[{g:=h,fn:=fh,pos:=ph,act:=.go c},{g:=c,fn:=fc,pos:=ph,act:=.start}]
def agt (h c:Nat)(fh:FuncId)(ph:String)(fc:FuncId):∀op∈kS h c fh ph fc,op.act.touch?=none:=by intro op aS;simp only[kS,List.mem_toArray,List.mem_cons,List.not_mem_nil,or_false]at aS;rcases aS with rfl|rfl<;>rfl
def Sn (h c:Nat)(fh:FuncId)(ph:String)(fc:FuncId)(g:Nat):∀op∈kS h c fh ph fc,∀d,deafStep g d op=d:=by intro op aS d;simp only[kS,List.mem_toArray,List.mem_cons,List.not_mem_nil,or_false]at aS;rcases aS with rfl|rfl<;>rfl
def ags (h c:Nat)(fh:FuncId)(ph:String)(fc:FuncId)(B:Nat):∀op∈kS h c fh ph fc,op.act.low B:=by intro op aS;simp only[kS,List.mem_toArray,List.mem_cons,List.not_mem_nil,or_false]at aS;rcases aS with rfl|rfl<;>trivial
def ajF {h c:Nat}(hh:Deaf t h=0)(hc:Deaf t c=0)(fh:FuncId)(ph:String)(fc:FuncId){i:Nat}(k:Knows t h i):Knows (t++kS h c fh ph fc) c i:=by
 have e0:(t++kS h c fh ph fc)[t.size]? =some {g:=h,fn:=fh,pos:=ph,act:=.go c}:=by simp[kS]
 have e1:(t++kS h c fh ph fc)[t.size+1]? =some {g:=c,fn:=fc,pos:=ph,act:=.start}:=by simp[kS]
 have A0:HappensBefore (t++kS h c fh ph fc) t.size (t.size+1):=
  Relation.TransGen.single (.inr ⟨.spawn (act?_of e0) (act?_of e1) (g?_of e1),⟨h,g?_of e0,by rw[deaf_old (Nat.le_refl _)];exact hh⟩,⟨c,g?_of e1,by rw[deaf_quiet (Sn h c fh ph fc c) 1 (by simp[kS])];exact hc⟩⟩)
 exact⟨t.size+1,_,e1,rfl,.inr ((k.hb_new (Nat.le_refl _) e0 rfl).trans A0)⟩
def dO.hire {S Still Q W2:Loc->Prop}{amP ajh B c:Nat}{t:Trace}(H:dO S (λ_=>False) W2 ajh amP B (Knows t 0) t)(hS:∀l,Still l->l.isMemory=true/\¬S l)(hQ:∀l,Q l->l.isMemory=true)(hh:Deaf t 0=0)(hc:Deaf t c=0)(fh:FuncId)(ph:String)(fc:FuncId):
 dO S Still Q c 0 B (Knows (t++kS 0 c fh ph fc) c) (t++kS 0 c fh ph fc):=by
 have hn:=agt 0 c fh ph fc;have kn:∀{i},Knows t 0 i->Knows (t++kS 0 c fh ph fc) c i:=λk=>ajF hh hc fh ph fc k;refine⟨λsaid=>noRace_appendMute (H.clean said) hn,λi a ha hm=>?_,λi a ha hw bw=>?_,λi a ha hq=>?_,seen_app H.seen (ags _ _ _ _ _ B)⟩
 ·obtain⟨x,hx,bF⟩:=touch_of ha;rcases getElem?_append_cases hx with⟨hi,cY⟩|⟨_,du⟩
  ·rcases H.known i a (by rw[touchAt_of cY];exact bF) hm with y|⟨y,z,v⟩|⟨_,_,v⟩
   ·exact .inl (kn y)
   ·exact .inr (.inl ⟨y,z,λc=>v ((counts_old hi).1 c)⟩)
   ·exact v.elim
  ·rw[hn x du]at bF;cases bF
 ·obtain⟨x,hx,bF⟩:=touch_of ha;rcases getElem?_append_cases hx with⟨hi,cY⟩|⟨_,du⟩
  ·rcases H.known i a (by rw[touchAt_of cY];exact bF) (hS _ bw).1 with y|⟨y,_⟩|⟨_,_,v⟩
   ·exact y.app _
   ·exact absurd y (hS _ bw).2
   ·exact v.elim
  ·rw[hn x du]at bF;cases bF
 ·obtain⟨x,hx,bF⟩:=touch_of ha;rcases getElem?_append_cases hx with⟨hi,cY⟩|⟨_,du⟩
  ·rcases H.known i a (by rw[touchAt_of cY];exact bF) (hQ _ hq)with y|⟨_,y,_⟩|⟨_,_,v⟩
   ·exact .inr (kn y)
   ·exact .inl (by rw[y];exactλe=>by cases e)
   ·exact v.elim
  ·rw[hn x du]at bF;cases bF
end
section
variable (P:Program)(main:Bool)(K:World->Prop)(Still:Loc->Prop)(B:Nat)(s:Seat)
def Way:Nat->Goroutine->Prop
 |0,g=>∃cS,AtIn P main K Still B s g cS
 |n+1,g=>(∃cS,AtIn P main K Still B s g cS)\/(g.status=.running/\∀w,K w->(stepG P main g w).goes λg' w' es=>AtRel w w'/\(∀e∈es,EvC Still B e)/\Way n g')
def eE (n:Nat)(g:Goroutine):Prop:=
 (∃k,n=k+1/\Way P main K Still B s k g)\/(n=0/\∃pX cS,g=parked cS s.cases s.shape/\AtIn P main K Still B s pX cS)
end
section
variable {P:Program}{main:Bool}{K:World->Prop}{Still:Loc->Prop}{B:Nat}{s:Seat}
def Way.running:∀{n:Nat} {g:Goroutine},Way P main K Still B s n g->g.status=.running
 |0,_,⟨_,h⟩=>h.1
 |_+1,_,h=>h.elim (λ⟨_,x⟩=>x.1) (λx=>x.1)
def Way.mono:∀{n m:Nat} {g:Goroutine},n<=m->Way P main K Still B s n g->Way P main K Still B s m g
 |0,0,_,_,h=>h
 |0,_+1,_,_,h=>.inl h
 |_+1,0,_,hn,_=>absurd hn aa
 |n+1,m+1,g,hn,h=>by
  refine h.imp id λ⟨hr,x⟩=>⟨hr,λw hw=>?_⟩;have:=x w hw
  cases hg:stepG P main g w<;>rw[hg]at this<;>first|exact this.elim|skip
  exact⟨this.1,this.2.1,Way.mono aa this.2.2⟩
def eE.status {n:Nat}{g:Goroutine}(h:eE P main K Still B s n g):(g.status=.running/\0<n)\/(g.status=.blocked/\n=0):=by
 rcases h with⟨k,rfl,hg⟩|⟨rfl,_,cS,rfl,_⟩
 ·exact .inl ⟨hg.running,aa⟩
 ·exact .inr ⟨rfl,rfl⟩
def eE.pick {n:Nat}{y:Goroutine}{w:World}(h:eE P main K Still B s n y)(hr:y.status=.running)(hK:K w):
 (∃cS es k,n=k+1/\AtIn P main K Still B s y cS/\(∀e∈es,EvC Still B e)/\stepG P main y w=.comm cS s.cases true s.shape w es)\/
  ∃n' y' d es,n'<n/\0<n'/\(∀e∈es,EvC Still B e)/\stepG P main y w=.go y' (w.at d) es/\eE P main K Still B s n' y':=by
 rcases h with⟨k,rfl,hg⟩|⟨rfl,_,cS,rfl,_⟩
 ·have stop:(∃cS,AtIn P main K Still B s y cS)->∃cS es k',k+1=k'+1/\AtIn P main K Still B s y cS/\(∀e∈es,EvC Still B e)/\stepG P main y w=.comm cS s.cases true s.shape w es:=by rintro⟨cS,ha⟩;obtain⟨_,_,_,_,_,es,eV,bw⟩:=id ha;exact⟨cS,es,k,rfl,ha,eV,bw w hK⟩
  cases k with
  |zero=>exact .inl (stop hg)
  |succ k=>
   rcases hg with x|⟨_,gL⟩
   ·exact .inl (stop x)
   ·right;have:=gL w hK
    cases hgo:stepG P main y w<;>rw[hgo]at this<;>first|exact this.elim|skip
    rename_i y' w' es;obtain⟨⟨d,rfl⟩,eV,fD⟩:=this;exact⟨k+1,y',d,es,aa,aa,eV,rfl,.inl ⟨k,rfl,fD⟩⟩
 ·cases hr
end
end
section
open Go.Conc
open Go.ConcN (sumTo upd sumTo_upd upd_ne upd_same)
structure Duo (P:Program) where
 W:World
 j:Nat
 chans:Nat->Prop
 K:World->Prop
 KW:World->Prop
 HK:Nat->Prop
 S:Loc->Prop
 Still:Loc->Prop
 Q:Loc->Prop
 B:Nat
 hj:0<j
 Dg:∀w,K w->KW w
 Dh:∀w d,K w->K (w.at d)
 Kr:∀w c k,chans c->K w->K (w.setChan c 0 #[] false k k false)
 cell:∀l,S l\/Still l\/Q l->∃a:Addr,l=.cell a
 apart:∀l,Still l->¬S l/\¬Q l
section
variable {P:Program}(D:Duo P)
def Duo.Hid (b:Nat):Prop:=D.HK b\/D.chans b\/∃a:Addr,a.block=b/\(D.S (.cell a)\/D.Q (.cell a))
structure Duo.Deep:Prop where
 k:∀w w',(∀b,D.HK b->w'.heap[b]? =w.heap[b]?)->D.K w->D.K w'
 still:∀a:Addr,D.Still (.cell a)->D.HK a.block
def Open (c:Nat)(w:World):Prop:=∃k,w.heap[c]? =some (.chan 0 #[] false k k false)
def Calm (e:Event):Prop:=(e.loc≠.mark .disable/\e.loc≠.mark .enable)/\∀a,e.loc≠.mark (.release a)
structure Duo.Base (gs:Array Goroutine) (w:World) (T:Trace) (q:Nat->Nat):Prop where
 lE:D.j<gs.size
 gU:∀i g,0<i->i≠D.j->gs[i]? =some g->QuitsD P (q i) (Deaf T i) g
 above:∀i,gs.size<=i->Deaf T i=0
 d0:Deaf T 0=0
 dj:Deaf T D.j=0
 k:D.K w
 chans:∀c,D.chans c->Open c w
 ng:D.B<=w.heap.size
 rN:lQ D.W w
 nr:pO D.Q T
def Duo.Of (p:Nat):Prop:=p=0\/p=D.j
def Duo.gC (h x:Nat):Prop:=(h=0/\x=D.j)\/(h=D.j/\x=0)
end
variable {P:Program}{D:Duo P}{h x:Nat}
def Duo.gC.symm(t:D.gC h x):D.gC x h:=t.elim (λ⟨a,b⟩=>.inr ⟨b,a⟩) (λ⟨a,b⟩=>.inl ⟨b,a⟩)
def Duo.gC.ne(t:D.gC h x):h≠x:=by have:=D.hj;rcases t with⟨rfl,rfl⟩|⟨rfl,rfl⟩<;>omega
def Duo.gC.left(t:D.gC h x):D.Of h:=t.elim (λa=>.inl a.1) (λa=>.inr a.1)
def Duo.gC.right(t:D.gC h x):D.Of x:=t.symm.left
variable {i:Nat}
def Duo.gC.A3(t:D.gC h x)(h1:i≠h)(h2:i≠x):0<i/\i≠D.j:=by
 rcases t with⟨rfl,rfl⟩|⟨rfl,rfl⟩
 ·exact⟨aa,h2⟩
 ·exact⟨aa,h1⟩
variable {gs:Array Goroutine}{w:World}{T:Trace}{q:Nat->Nat}
def Duo.Base.at (b:D.Base gs w T q)(d:Nat):D.Base gs (w.at d) T q:=
 ⟨b.lE,b.gU,b.above,b.d0,b.dj,D.Dh w d b.k,b.chans,b.ng,b.rN.at d,b.nr⟩
variable {p:Nat}
def Duo.Base.deaf(b:D.Base gs w T q)(hp:D.Of p):Deaf T p=0:=hp.elim (λe=>e▸b.d0) (λe=>e▸b.dj)
def Duo.Base.lt(b:D.Base gs w T q)(hp:D.Of p):p<gs.size:=by have:=b.lE;rcases hp with rfl|rfl<;>omega
abbrev mN(P:Program)(gs:Array Goroutine)(i:Nat)(g g':Goroutine)(w':World):Array Goroutine:=(gs.map (woken P g g' w')).setIfInBounds i g'
variable {w':World}
def iL(i:Nat)(g g':Goroutine):(mN P gs i g g' w').size=gs.size:=al
def sA(h:i<gs.size)(g g':Goroutine):(mN P gs i g g' w')[i]? =some g':=Array.getElem?_setIfInBounds_self_of_lt (aW h)
variable {k:Nat}{y:Goroutine}
def rj(h:k≠i)(hy:gs[k]? =some y)(ha:y.again w'=y)(g g':Goroutine):(mN P gs i g g' w')[k]? =some y:=by rw[Array.getElem?_setIfInBounds_ne (λe=>h e.symm),Array.getElem?_map,hy];simp[woken_of_again ha]
variable {g g':Goroutine}
def wY(h:k≠i){x:Goroutine}(hx:(mN P gs i g g' w')[k]? =some x):∃z,gs[k]? =some z/\x=woken P g g' w' z:=by rw[Array.getElem?_setIfInBounds_ne (λe=>h e.symm),Array.getElem?_map]at hx;obtain⟨z,hz,rfl⟩:=Option.map_eq_some_iff.1 hx;exact⟨z,hz,rfl⟩
variable {fn:FuncId}{pos:String}{es:Array Event}
def Duo.Base.step(b:D.Base gs w T q)(hp:D.Of p)(hk:D.K w')(hc:∀c,D.chans c->Open c w')(hs:w.heap.size<=w'.heap.size)(hf:lQ D.W w')(he:∀e∈es,Calm e):
 D.Base (mN P gs p g g' w') w' (T++MemOp.ofEvents p fn pos es) q:=by
 have hd:∀i,Deaf (T++MemOp.ofEvents p fn pos es) i=Deaf T i:=by
  intro i;by_cases e:i=p
  ·subst e;rw[Deaf_own];exact deafBehind_still (λe h=>(he e h).1) _
  ·exact Deaf_other T (λx=>e x.symm) _ (λop aS=>by obtain⟨e,_,rfl⟩:=Conc.mem_ofEvents aS;rfl)
 refine⟨by rw[iL];exact b.lE,λi x h1 h2 hx=>?_,λi hi=>?_,(hd 0).trans b.d0,(hd _).trans b.dj,hk,hc,Nat.le_trans b.ng hs,hf,b.nr.events λe h=>BV (he e h).2⟩
 ·have aE:i≠p:=by rcases hp with rfl|rfl<;>omega
  obtain⟨z,hz,rfl⟩:=wY aE hx;have hq:=b.gU i z h1 h2 hz;rw[woken_quitsD hq,hd];exact hq
 ·rw[iL]at hi;rw[hd];exact b.above i hi
def Duo.Base.leave(b:D.Base gs w T q)(h1:0<i)(h2:i≠D.j)(hg:gs[i]? =some g)(hr:g.status=.running)(d:Nat)(bE:Option (Nat×Nat)):
 ∃g' es q',runT P (crowd gs (w.at d) bE) i=(.next (crowd (mN P gs i g g' (w.at d)) (w.at d) bE),MemOp.ofEvents i g.frame.fn g.frame.place es)/\(∀e∈es,e.mute=true)/\
  sumTo gs.size q'<sumTo gs.size q/\D.Base (mN P gs i g g' (w.at d)) (w.at d) (T++MemOp.ofEvents i g.frame.fn g.frame.place es) q':=by
 have hq:=b.gU i g h1 h2 hg;have qU:(i==0)=false:=by simp;omega
 have bl:i<gs.size:=(Array.getElem?_eq_some_iff.1 hg).1
 cases lY:q i with
 |zero=>rw[lY]at hq;rw[hq.1]at hr;cases hr
 |succ k=>
  rw[lY]at hq;rcases hq with⟨hf,_⟩|⟨_,g',es,hm,l7,bz⟩
  ·rw[hf]at hr;cases hr
  have eY:=runT_crowd_go (P:=P) (sl:=bE) (i:=i) hg (by rw[qU];exact l7 (w.at d))
  have LD:sumTo gs.size (upd q i k)+(k+1)=sumTo gs.size q+k:=by have:=sumTo_upd q k id bl;simpa[lY]using this
  have fL:∀k,k≠i->Deaf (T++MemOp.ofEvents i g.frame.fn g.frame.place es) k=Deaf T k:=λk e=>
   Deaf_other T (λx=>e x.symm) _ (λop aS=>by obtain⟨e,_,rfl⟩:=Conc.mem_ofEvents aS;rfl)
  refine⟨g',es,upd q i k,eY,hm,aa,by rw[iL];exact b.lE,λc x c1 c2 hx=>?_,λc hc=>?_,(fL 0 aa).trans b.d0,(fL _ (λe=>h2 e.symm)).trans b.dj,(b.at d).k,b.chans,b.ng,b.rN.at d,b.nr.events λe he=>MG (hm e he)⟩
  ·by_cases e:c=i
   ·subst e;rw[sA bl]at hx;obtain rfl:=Option.some.inj hx;rw[upd_same,Deaf_own];exact bz
   ·obtain⟨z,hz,rfl⟩:=wY e hx;have pk:=b.gU c z c1 c2 hz;rw[woken_quitsD pk,upd_ne q k e,fL c e];exact pk
  ·rw[iL]at hc;rw[fL c aa];exact b.above c hc
def Duo.Base.awake(b:D.Base gs w T q)(t:D.gC h x)(hg:gs[h]? =some g)(hy:gs[x]? =some y)(hgs:g.status=.running\/g.status=.blocked\/g.status=.finished)(wL:y.status=.running\/y.status=.blocked\/y.status=.finished):∀z∈gs,awake z:=by
 intro z hz;obtain⟨i,hi,rfl⟩:=Array.mem_iff_getElem.1 hz;by_cases e:i=h
 ·subst e;have:gs[i]=g:=by simpa[Array.getElem?_eq_getElem hi]using hg
  rw[this];exact awake_of hgs
 ·by_cases e':i=x
  ·subst e';have:gs[i]=y:=by simpa[Array.getElem?_eq_getElem hi]using hy
   rw[this];exact awake_of wL
  ·obtain⟨h1,h2⟩:=t.A3 e e';exact awake_of ((b.gU i _ h1 h2 (Array.getElem?_eq_getElem hi)).status.elim .inl λx=>.inr (.inr x))
def Duo.Fits(D:Duo P)(s:Seat):Prop:=∀cc∈s.cases,∃c,D.chans c/\cc.chan=.chan (some c)
def XB{cs:Array CommCase}{sh:CommShape}(h:∀cc∈cs,∃c,cc.chan=.chan (some c)/\Open c w):(parked g cs sh).again w=parked g cs sh:=by simp[Goroutine.again,parked];intro x hx;obtain⟨c,hc,k,hk⟩:=h cs[x] (Array.getElem_mem hx);rw[hc];simp[hk]
variable {main:Bool}{s:Seat}{n:Nat}
def eE.stays(hc:∀c,D.chans c->Open c w)(hs:D.Fits s)(h:eE P main D.KW D.Still D.B s n g):g.again w=g:=by
 rcases h with⟨k,rfl,hg⟩|⟨rfl,_,cS,rfl,_⟩
 ·exact again_of_running (.inl hg.running) w
 ·exact XB λcc cT=>by obtain⟨c,h1,h2⟩:=hs cc cT;exact⟨c,h2,hc c h1⟩
def Duo.St(D:Duo P)(h x:Nat)(s:Seat)(g:Goroutine)(U:Hp)(m:Machine)(T:Trace):Prop:=
 ∃gs w sl q au2 n y,m=crowd gs w sl/\gs[h]? =some g/\gs[x]? =some y/\eE P (x==0) D.KW D.Still D.B s n y/\D.Base gs w T q/\dO D.S D.Still D.Q D.j x w.heap.size (Knows T h) T/\cR au2 w U/\(∀b,D.Hid b->au2 b)
def Duo.Oj(D:Duo P)(n:Nat)(e:Event):Prop:=
 (∀b,(MemAct.ofEvent e).touch?=some b->(D.S b.loc->b.kind≠.plain)/\(D.Still b.loc->b.write=false)/\(D.Q b.loc->b.kind≠.plain))/\Calm e/\(MemAct.ofEvent e).low n
def acP(hD:D.Deep){au2:Nat->Prop}{e:Event}(hJ:∀b,D.Hid b->au2 b)(h:iD au2 n e):D.Oj n e:=by
 have key:∀{l:Loc},(∀a:Addr,l=.cell a->¬au2 a.block)->¬(D.S l\/D.Still l\/D.Q l):=by
  intro l hl hs;obtain⟨a,rfl⟩:=D.cell l hs;refine hl a rfl (hJ _ ?_);rcases hs with hs|hs|hs
  ·exact .inr (.inr ⟨a,rfl,.inl hs⟩)
  ·exact .inl (hD.still a hs)
  ·exact .inr (.inr ⟨a,rfl,.inr hs⟩)
 have V3:∀{l:Loc} {b:Touch},b.loc=l->(∀a:Addr,l=.cell a->¬au2 a.block)->(D.S b.loc->b.kind≠.plain)/\(D.Still b.loc->b.write=false)/\(D.Q b.loc->b.kind≠.plain):=by intro l b hb hl;have:=key hl;rw[<-hb]at this;exact⟨λx=>absurd (.inl x) this,λx=>absurd (.inr (.inl x)) this,λx=>absurd (.inr (.inr x)) this⟩
 obtain⟨loc,wr,sy⟩:=e;unfold iD at h
 cases loc with
 |cell a=>
  obtain⟨h1,h2⟩:¬au2 a.block/\a.block<n:=h;refine⟨λb hb=>V3 (l:=.cell a) ?_ (λa' e=>by cases e;exact h1),⟨⟨al,al⟩,al⟩,by cases sy<;>cases wr<;>exact h2⟩
  cases sy<;>cases wr<;>simp[MemAct.ofEvent,MemAct.touch?]at hb<;>subst hb<;>rfl
 |obj r=>
  obtain⟨h1,h2⟩:¬au2 r/\r<n:=h;refine⟨λb hb=>V3 (l:=.obj r) ?_ (λa' e=>by cases e),⟨⟨al,al⟩,al⟩,by cases sy<;>cases wr<;>exact h2⟩
  cases sy<;>cases wr<;>simp[MemAct.ofEvent,MemAct.touch?]at hb<;>subst hb<;>rfl
 |output=>exact h.elim
 |goroutines=>exact h.elim
 |mark m=>
  have h:BZ m=true:=h
  cases m<;>first|cases h|skip
  ·exact⟨λx hx=>by simp[MemAct.ofEvent,MemAct.touch?]at hx,⟨⟨al,al⟩,al⟩,trivial⟩
  ·exact⟨λx hx=>by simp[MemAct.ofEvent,MemAct.touch?]at hx,⟨⟨al,al⟩,al⟩,trivial⟩
def Duo.xy(D:Duo P)(main:Bool)(g:Goroutine)(U:Hp)(X:Goroutine->Hp->Prop):Prop:=
 ∀au2 w,cR au2 w U->(∀b,D.Hid b->au2 b)->D.K w->(∀c,D.chans c->Open c w)->lQ D.W w->(stepG P main g w).goes λg' w' es=>
  ∃ae J',cR J' w' ae/\(∀b,D.Hid b->J' b)/\D.K w'/\(∀c,D.chans c->Open c w')/\lQ D.W w'/\w.heap.size<=w'.heap.size/\(∀e∈es,D.Oj w'.heap.size e)/\g'.status=.running/\X g' ae
variable {U:Hp}{X:Goroutine->Hp->Prop}
def gZ.adU(hD:D.Deep)(h:gZ P main g U X):D.xy main g U X:=by
 intro au2 w hs hJ hK hc hf;have:=h au2 w hs
 cases hg:stepG P main g w<;>rw[hg]at this<;>first|exact this.elim|skip
 obtain⟨ae,h1,h2,h3,h4,h5⟩:=this;exact⟨ae,au2,h1,hJ,hD.k w _ (λb hb=>h2.hidden b (hJ b (.inl hb))) hK,λc cT=>by obtain⟨k,hk⟩:=hc c cT;exact⟨k,by rw[h2.hidden c (hJ c (.inr (.inl cT)))];exact hk⟩,hf.kept h2,h2.um,λe he=>acP hD hJ (h3 e he),h4,h5⟩
variable {c:Nat}{b:Bool}
def ET(hb:D.Base gs w T q)(t:D.gC h x)(hg:gs[h]? =some g)(ho:offersAt g c b=[]):partners (gs.setIfInBounds x ph) c b=[]:=by
 refine partners_nil λj z hz=>?_;rcases getElem?_stand gs x j z hz with⟨_,rfl⟩|⟨h1,h2⟩
 ·exact offersAt_ph c b
 ·by_cases e:j=h
  ·subst e;rw[hg]at h2;rw[<-Option.some.inj h2];exact ho
  ·obtain⟨i1,i2⟩:=t.A3 e h1;refine offersAt_of_not_blocked (λuA=>?_) c b;have:=(hb.gU j z i1 i2 h2).status;rcases this with y|y<;>rw[uA]at y<;>cases y
def VI(hb:D.Base gs w T q)(t:D.gC h x)(hg:gs[h]? =some g):partners (gs.setIfInBounds x ph) c b=(offersAt g c b).map λk=>(h,k):=by
 refine partners_one (stand_get t.ne hg) λj z hj hz=>?_;rcases getElem?_stand gs x j z hz with⟨_,rfl⟩|⟨h1,h2⟩
 ·exact offersAt_ph c b
 ·obtain⟨i1,i2⟩:=t.A3 hj h1;refine offersAt_of_not_blocked (λuA=>?_) c b;have:=(hb.gU j z i1 i2 h2).status;rcases this with y|y<;>rw[uA]at y<;>cases y
def MD{cc:CommCase}(dR:cc.chan=.chan (some c))(ho:Open c w)(hp:partners gs c (cc.send.isNone)=[]):NoWays w gs cc:=by
 obtain⟨ch,sd,z⟩:=cc;obtain⟨k,hk⟩:=ho
 cases dR
 cases sd with
 |none=>exact ways_recv_none (z:=z) hk hp
 |some v=>exact ways_send_none (z:=z) hk al hp
variable {Still:Loc->Prop}
def ze{B:Nat}(h:∀e∈es,EvC Still B e):∀e∈es,Calm e:=λe he=>by obtain⟨a,rfl,_,_⟩:=h e he;exact⟨⟨al,al⟩,al⟩
def QA{B:Nat}(h:∀e∈es,EvC Still B e):∀e∈es,e.loc≠.mark .disable/\e.loc≠.mark .enable:=λe he=>(ze h e he).1
def Duo.Base.set(b:D.Base gs w T q)(hp:D.Of p)(y:Goroutine)(he:∀e∈es,Calm e):D.Base (gs.setIfInBounds p y) w (T++MemOp.ofEvents p fn pos es) q:=by
 have hd:∀i,Deaf (T++MemOp.ofEvents p fn pos es) i=Deaf T i:=by
  intro i;by_cases e:i=p
  ·subst e;rw[Deaf_own];exact deafBehind_still (λe h=>(he e h).1) _
  ·exact Deaf_other T (λx=>e x.symm) _ (λop aS=>by obtain⟨e,_,rfl⟩:=Conc.mem_ofEvents aS;rfl)
 refine⟨by simpa using b.lE,λi x h1 h2 hx=>?_,λi hi=>?_,(hd 0).trans b.d0,(hd _).trans b.dj,b.k,b.chans,b.ng,b.rN,b.nr.events λe h=>BV (he e h).2⟩
 ·have aE:i≠p:=by rcases hp with rfl|rfl<;>omega
  rw[Array.getElem?_setIfInBounds_ne (λe=>aE e.symm)]at hx;rw[hd];exact b.gU i x h1 h2 hx
 ·rw[hd];exact b.above i (aW hi)
def Duo.other(D:Duo P)(t:D.gC h x)(hs:D.Fits s){sl:Option (Nat×Nat)}(hb:D.Base gs w T q)(hg:gs[h]? =some g)(hga:∀d,g.again (w.at d)=g)(hgo:∀c b,offersAt g c b=[])(hy:gs[x]? =some y)(hr:y.status=.running)(lZ:eE P (x==0) D.KW D.Still D.B s n y):
 ∃cg y' n' d es,runT P (crowd gs w sl) x=(.next (crowd cg (w.at d) sl),MemOp.ofEvents x y.frame.fn y.frame.place es)/\n'<n/\cg.size=gs.size/\cg[h]? =some g/\cg[x]? =some y'/\eE P (x==0) D.KW D.Still D.B s n' y'/\
  D.Base cg (w.at d) (T++MemOp.ofEvents x y.frame.fn y.frame.place es) q/\∀e∈es,EvC D.Still D.B e:=by
 rcases eE.pick lZ hr (D.Dg _ hb.k)with⟨cS,es,k,rfl,qQ,eV,bw⟩|⟨n',y',d,es,bl,_,eV,bw,rf⟩
 ·have hw:∀cc∈s.cases,NoWays w (gs.setIfInBounds x ph) cc:=λcc cT=>by obtain⟨c,h1,h2⟩:=hs cc cT;exact MD h2 (hb.chans c h1) (ET hb t hg (hgo _ _))
  exact⟨_,parked cS s.cases s.shape,0,w.drawn,es,crowd_waits hy bw hw,aa,al,by rw[Array.getElem?_setIfInBounds_ne t.ne.symm];exact hg,
   Array.getElem?_setIfInBounds_self_of_lt (hb.lt t.right),.inr ⟨rfl,y,cS,rfl,qQ⟩,hb.set t.right _ (ze eV),eV⟩
 ·exact⟨_,y',n',d,es,runT_crowd_go hy bw,bl,al,rj t.ne hg (hga d) _ _,sA (hb.lt t.right) _ _,rf,(hb.at d).step t.right (hb.at d).k hb.chans (Nat.le_refl _) (hb.rN.at d) (ze eV),eV⟩
def dO.other{S Q:Loc->Prop}{jw B:Nat}{K:Nat->Prop}{K':Nat->Prop}(H:dO S Still Q jw x n K T)(hK:∀i,K i->K' i)(Kx:∀l,Still l->¬Q l)(hB:B<=n)(eV:∀e∈es,EvC Still B e):dO S Still Q jw x n K' (T++MemOp.ofEvents x fn pos es):=by obtain⟨h1,h2,h3,_⟩:=evC_ops (i:=x) (fn:=fn) (pos:=pos) eV;exact H.appRead hK Kx h1 h2 (λop aS=>MemAct.low_mono hB (h3 op aS))
def Duo.run(D:Duo P)(t:D.gC h x)(hs:D.Fits s){m:Machine}(nC:D.St h x s g U m T)(hr:g.status=.running)(hX:D.xy (h==0) g U X):
 ∃N m' T' g' ae,runNT P N m T=(.next m',T')/\D.St h x s g' ae m' T'/\g'.status=.running/\X g' ae:=by
 let Inv:Nat->Machine->Trace->Prop:=λμ m T=>(∃gs w sl q au2 n y,m=crowd gs w sl/\gs[h]? =some g/\gs[x]? =some y/\eE P (x==0) D.KW D.Still D.B s n y/\D.Base gs w T q/\dO D.S D.Still D.Q D.j x w.heap.size (Knows T h) T/\cR au2 w U/\(∀b,D.Hid b->au2 b)/\μ=n+sumTo gs.size q+1)\/
  ∃g' ae,D.St h x s g' ae m T/\g'.status=.running/\X g' ae
 suffices step:∀μ m T,Inv μ m T->(∃g' ae,D.St h x s g' ae m T/\g'.status=.running/\X g' ae)\/∃m' ops vC,stepT P m=(.next m',ops)/\vC<μ/\Inv vC m' (T++ops)by
  obtain⟨gs,w,sl,q,au2,n,y,rfl,e1,e2,e3,e4,e5,e6,e7⟩:=nC;obtain⟨N,m',T',kD,g',ae,h1,h2,h3⟩:=runs_until step _ _ _ (.inl ⟨gs,w,sl,q,au2,n,y,rfl,e1,e2,e3,e4,e5,e6,e7,rfl⟩);exact⟨N,m',T',g',ae,kD,h1,h2,h3⟩
 rintro μ m T (⟨gs,w,sl,q,au2,n,y,rfl,hg,hy,lZ,hb,hp,fU,hJ,rfl⟩|KS)
 ·right;have wL:=eE.status lZ;obtain⟨i,z,d,bE,hi,hz,bw⟩:=crowd_pick (P:=P) (w:=w) (sl:=sl) (hb.awake t hg hy (.inl hr) (wL.elim (λa=>.inl a.1) (λa=>.inr (.inl a.1)))) ⟨h,g,hg,hr⟩;by_cases eh:i=h
  ·
   subst eh;obtain rfl:z=g:=by rw[hg]at hi;exact(Option.some.inj hi).symm
   have hgo:=hX au2 (w.at d) (fU.at d) hJ (hb.at d).k hb.chans (hb.rN.at d)
   cases l7:stepG P (i==0) z (w.at d)<;>rw[l7]at hgo<;>first|exact hgo.elim|skip
   rename_i g' w' es;obtain⟨ae,J',ahn,hJ',hK',cF,Bo,gQ,kA,eX,hx⟩:=hgo;have eY:=runT_crowd_go (P:=P) (sl:=bE) hi l7;refine⟨_,_,0,bw.trans eY,aa,.inr ⟨g',ae,⟨_,w',bE,q,J',n,y,rfl,sA (hb.lt t.left) _ _,?_,lZ,(hb.at d).step t.left hK' cF gQ Bo (λe he=>(kA e he).2.1),?_,ahn,hJ'⟩,eX,hx⟩⟩
   ·exact rj t.ne.symm hy (eE.stays cF hs lZ) _ _
   ·refine(hp.mono gQ).appH (λop aS=>by obtain⟨e,_,rfl⟩:=Conc.mem_ofEvents aS;rfl) (λop aS b hb=>?_) (λop aS=>?_)
    ·obtain⟨e,he,rfl⟩:=Conc.mem_ofEvents aS;exact(kA e he).1 b hb
    ·obtain⟨e,he,rfl⟩:=Conc.mem_ofEvents aS;exact(kA e he).2.2
  ·by_cases ex:i=x
   ·
    subst ex;obtain rfl:z=y:=by rw[hy]at hi;exact(Option.some.inj hi).symm
    obtain⟨cg,y',n',d',es,eY,bl,gQ,fD,uQ,rf,dJ,eV⟩:=D.other t hs (sl:=bE) (hb.at d) hg (λd=>again_of_running (.inl hr) _) (λc b=>offersAt_of_not_blocked (by rw[hr];simp) c b) hy hz lZ;refine⟨_,_,n'+sumTo gs.size q+1,bw.trans eY,aa,.inl ⟨cg,w.at d',bE,q,au2,n',y',rfl,fD,uQ,rf,dJ,?_,fU.at d',hJ,by rw[gQ]⟩⟩;exact hp.other (λ_ x=>x.app _) (λl hl=>(D.apart l hl).2) hb.ng eV
   ·obtain⟨i1,i2⟩:=t.A3 eh ex;obtain⟨g',es,q',eY,hm,bl,dJ⟩:=hb.leave i1 i2 hi hz d bE;refine⟨_,_,n+sumTo gs.size q'+1,bw.trans eY,aa,.inl ⟨_,w.at d,bE,q',au2,n,y,rfl,rj (λe=>eh e.symm) hg (again_of_running (.inl hr) _) _ _,rj (λe=>ex e.symm) hy (eE.stays hb.chans hs lZ) _ _,lZ,dJ,?_,fU.at d,hJ,by rw[iL]⟩⟩;exact hp.appMute (λ_ x=>x.app _) (λop aS=>by obtain⟨e,he,rfl⟩:=Conc.mem_ofEvents aS;exact touch_mute (hm e he)) (λop aS=>by obtain⟨e,he,rfl⟩:=Conc.mem_ofEvents aS;exact low_mute (hm e he) _)
 ·exact .inl KS
end
end Go.Qw
