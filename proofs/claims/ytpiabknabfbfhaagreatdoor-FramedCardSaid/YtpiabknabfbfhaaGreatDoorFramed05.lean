/- 5 -/
import Derived.Test.YtpiabknabfbfhaaGreatDoorFramed04
set_option linter.all false
set_option maxRecDepth 100000
set_option maxHeartbeats 8000000
namespace Go.Qw
open Go Go.Conc
def sZ(P:Program)(s d:TypeId):Option IntKind:=if DI P s then KT P d else none
variable {P:Program}{E:Env P}{N:Nat}{Q:Post}{I:av}{ds:List Deferred}{U:Hp}
def Zk{x y:Code}:cO E N (.seq x y) Q I ds U=cO E N x (lz (cO E N y Q) Q) I ds U:=bj
def Zi{id:Nat}{l:List Oper}:cO E N (.region id l.toArray false) Q I ds U=iZ E N l.toArray Q l I ds U:=bj
def Zl:cO E N .skip Q I ds U=Q .normal I ds U:=bj
def Zh{l:Nat}:cO E N (.label l) Q I ds U=Q .normal I ds U:=bj
def Zj:cO E N .ret Q I ds U=Q .ret I ds U:=bj
def Zg{id:Nat}:cO E N (.exit id) Q I ds U=Q (.exit id) I ds U:=bj
def Ze{id:Nat}{c:Code}:cO E N (.block id c) Q I ds U=cO E N c (pH id Q) I ds U:=bj
def Zf{x:Operand}{a b:Code}:cO E N (.cond x a b) Q I ds U=tf (cO E N a Q I ds U) (cO E N b Q I ds U) (ai I x):=by
 simp only[cO];unfold tf;generalize ai I x=v
 cases v<;>first|rfl|(rename_i t;cases t<;>rfl)
variable {nx:av->List Deferred->Hp->Prop}
def ao8{aC:av}:lz nx Q .normal aC ds U=nx aC ds U:=bj
def ao7{id:Nat}:lz nx Q (.exit id) I ds U=Q (.exit id) I ds U:=bj
def apa:lz nx Q .ret I ds U=Q .ret I ds U:=bj
def ao9{ch:List PanicEntry}:lz nx Q (.panic ch) I ds U=Q (.panic ch) I ds U:=bj
def Xy{id:Nat}:pH id Q .normal I ds U=Q .normal I ds U:=bj
def XA{id:Nat}:pH id Q .ret I ds U=Q .ret I ds U:=bj
def Xz{id:Nat}{ch:List PanicEntry}:pH id Q (.panic ch) I ds U=Q (.panic ch) I ds U:=bj
def Xw{id:Nat}:pH id Q (.exit id) I ds U=Q .normal I ds U:=by simp[pH]
def Xx{id i:Nat}(h:(i==id)=false):pH id Q (.exit i) I ds U=Q (.exit i) I ds U:=by have:¬i=id:=aV h;simp[pH,this]
variable {e:Ex}{jl:Nat}
@[congr] theorem atd(_:tick 0=jl):lz nx Q e I ds U=lz nx Q e I ds U:=rfl
@[congr] theorem aq7{id:Nat}(_:tick 0=jl):pH id Q e I ds U=pH id Q e I ds U:=rfl
def iJ(P:Program)(t:TypeId):Option Nat:=match tn P t with
 |some e=>(P.info? e).map (·.size)
 |none=>none
variable {t:TypeId}{z:Nat}
def Cj(h:iJ P t=some z):∃e,tn P t=some e/\(P.info? e).isSome=true/\cC P e=z:=by
 unfold iJ at h;split at h
 ·rename_i e he;obtain⟨i,hi,rfl⟩:=Option.map_eq_some_iff.1 h;exact⟨e,he,by simp[hi],by simp[cC,hi]⟩
 ·cases h
def uq(p:Prop)(z:Nat)(k:Value->Prop)(i:Value)(x:Value):Prop:=
 match x,i with
 | .slice (some a) n _,.int _ j=>jd (0<=j/\j<n) (k (.pointer (some (a.add (j.toNat*z)))))
 |_,_=>p
variable {p:Prop}{k:Value->Prop}{i' x':Value}
@[congr] theorem asv{i x:Value}(hi:tick i=i')(hx:tick x=x'):uq p z k i x=uq p z k i' x':=by subst hi;subst hx;rfl
variable {kk:IntKind}{j:Int}{off n c:Nat}
def ahL{b:Nat}:uq p z k (.int kk j) (.slice (some ⟨b,off,none⟩) n c)=jd (0<=j/\j<n) (k (.pointer (some ⟨b,off+j.toNat*z,none⟩))):=by simp only[uq,Io]
variable {dst:Option Tmp}{ty:TypeId}{pos:String}{af:Array Edge}{g:Option (Nat×Bool)}{pn:List PanicEntry->Hp->Prop}
def amh{x i:Operand}(h:iJ P t=some z):aS E ⟨dst,.indexAddr t x i,ty,pos,af,g⟩ I ds U nx pn=
 uq (wpOp E ⟨dst,.indexAddr t x i,ty,pos,af,g⟩ I ds U nx pn) z (λv=>nx (aA I dst v) ds U) (ai I i) (ai I x):=by
 obtain⟨e,he,hs,hz⟩:=Cj h;subst hz;simp only[aS];unfold uq;generalize ai I x=vx;generalize ai I i=vi;rw[he]
 cases vx with
 |slice a n c=>
  cases a with
  |none=>cases vi<;>rfl
  |some a=>
   cases vi with
   |int kk j=>simp only[hs,and_true,jd]
   |_=>rfl
 |_=>cases vi<;>rfl
def nP(l:List UInt8)(i:Nat):Int:=((l.getD i 0).toNat:Int)
def Af(p:Prop)(k:Value->Prop)(i:Value)(x:Value):Prop:=
 match x,i with
 | .string s,.int _ j=>∃h:0<=j/\j.toNat<s.size,k (.int .u8 (s[j.toNat]'h.2).toNat)
 |_,_=>p
@[congr] theorem ara{i x:Value}(hi:tick i=i')(hx:tick x=x'):Af p k i x=Af p k i' x':=by subst hi;subst hx;rfl
def YT{l:List UInt8}:Af p k (.int kk j) (.string (B l))=jd (0<=j/\j<l.length) (k (.int .u8 (nP l j.toNat))):=by
 simp only[Af,jd,eq_iff_iff]
 have e:∀h:j.toNat<(B l).size,(B l)[j.toNat]'h=l.getD j.toNat 0:=by
  intro h;have hk:j.toNat<l.length:=by rw[wG]at h;exact h
  have:(B l)[j.toNat]'h=l[j.toNat]'hk:=by show(B l).data[j.toNat]=_;simp[B]
  rw[this,List.getD_eq_getElem?_getD,List.getElem?_eq_getElem hk,Option.getD_some]
 constructor
 ·rintro⟨h,k1⟩;rw[e]at k1;have:=h.2;rw[wG]at this;exact⟨⟨h.1,aa⟩,k1⟩
 ·rintro⟨h,k1⟩;have h2:j.toNat<(B l).size:=by rw[wG];omega
  exact⟨⟨h.1,h2⟩,by rw[e];exact k1⟩
def amg{x i:Operand}(h:qe P t=true):aS E ⟨dst,.index t x i,ty,pos,af,g⟩ I ds U nx pn=
 Af (wpOp E ⟨dst,.index t x i,ty,pos,af,g⟩ I ds U nx pn) (λv=>nx (aA I dst v) ds U) (ai I i) (ai I x):=by
 simp only[aS,EF h];unfold Af;generalize ai I x=vx;generalize ai I i=vi
 cases vx<;>cases vi<;>rfl
def ml(k:Int->Prop):Option Value->Prop
 |none=>k 0
 |some (.int _ i)=>k i
 |_=>False
variable {k:Int->Prop}{a a':Option Value}
@[congr] theorem asB(h:tick a=a'):ml k a=ml k a':=by subst h;rfl
def aiV:ml k none=k 0:=bj
def aiW{i:Int}:ml k (some (.int kk i))=k i:=bj
def jg(n:Nat)(k:Int->Prop):Option Value->Prop
 |none=>k n
 |some (.int _ i)=>k i
 |_=>False
@[congr] theorem ar7(h:tick a=a'):jg n k a=jg n k a':=by subst h;rfl
def aeU:jg n k none=k n:=bj
def aeV{i:Int}:jg n k (some (.int kk i))=k i:=bj
def xT(p:Prop)(k:Value->Prop)(lo hi:Option Value):Value->Prop
 | .string s=>ml (λl=>jg s.size (λh=>jd (0<=l/\l<=h/\h<=s.size) (k (.string (s.extract l.toNat h.toNat)))) hi) lo
 |_=>p
variable {k:Value->Prop}{lo hi:Option Value}
@[congr] theorem as9{x:Value}(h:tick x=x'):xT p k lo hi x=xT p k lo hi x':=by subst h;rfl
def aoA{s:List UInt8}:xT p k lo hi (.string (B s))=
 ml (λl=>jg s.length (λh=>jd (0<=l/\l<=h/\h<=s.length) (k (.string (B ((s.drop l.toNat).take (h.toNat-l.toNat)))))) hi) lo:=by
 show ml (λl=>jg (B s).size (λh=>jd (0<=l/\l<=h/\h<=(B s).size) (k (.string ((B s).extract l.toNat h.toNat)))) hi) lo=_;rw[wG];congr 1;funext l;congr 1;funext h;rw[Nf]
def ams{x:Operand}{lo hi:Option Operand}(h:qe P t=true):aS E ⟨dst,.slice t x lo hi none,ty,pos,af,g⟩ I ds U nx pn=
 xT (wpOp E ⟨dst,.slice t x lo hi none,ty,pos,af,g⟩ I ds U nx pn) (λv=>nx (aA I dst v) ds U) (lo.map (ai I)) (hi.map (ai I)) (ai I x):=by
 simp only[aS,EF h];generalize ai I x=vx
 cases vx with
 |string s=>
  simp only[xT,jd]
  cases lo with
  |none=>
   simp only[Option.map_none,nE,ml]
   cases hi with
   |none=>simp[jE,jg]
   |some hh=>simp only[Option.map_some,jE,jg];cases ai I hh<;>rfl
  |some ll=>
   simp only[Option.map_some]
   cases ai I ll with
   |int kk n=>
    simp only[nE,ml]
    cases hi with
    |none=>simp[jE,jg]
    |some hh=>simp only[Option.map_some,jE,jg];cases ai I hh<;>rfl
   |_=>rfl
 |_=>rfl
def wK(p:Prop)(z:Nat)(k:Value->Prop)(lo hi:Option Value):Value->Prop
 | .slice a n c=>ml (λl=>jg n (λh=>jd (0<=l/\l<=h/\h<=c) (k (.slice (if c=l.toNat then a else a.map (·.add (l.toNat*z))) (h.toNat-l.toNat) (c-l.toNat)))) hi) lo
 |_=>p
@[congr] theorem atc{x:Value}(h:tick x=x'):wK p z k lo hi x=wK p z k lo hi x':=by subst h;rfl
def ao2{a:Option Addr}:wK p z k lo hi (.slice a n c)=
 ml (λl=>jg n (λh=>jd (0<=l/\l<=h/\h<=c) (k (.slice (if c=l.toNat then a else a.map (·.add (l.toNat*z))) (h.toNat-l.toNat) (c-l.toNat)))) hi) lo:=rfl
variable {x:Operand}
def amr{lo hi:Option Operand}(h:iJ P t=some z):aS E ⟨dst,.slice t x lo hi none,ty,pos,af,g⟩ I ds U nx pn=
 wK (wpOp E ⟨dst,.slice t x lo hi none,ty,pos,af,g⟩ I ds U nx pn) z (λv=>nx (aA I dst v) ds U) (lo.map (ai I)) (hi.map (ai I)) (ai I x):=by
 obtain⟨e,he,hs,hz⟩:=Cj h;subst hz;simp only[aS,Hr he];generalize ai I x=vx
 cases vx with
 |slice a n c=>
  simp only[wK,jd,hs,and_true]
  cases lo with
  |none=>
   simp only[Option.map_none,nE,ml]
   cases hi with
   |none=>simp[jE,jg]
   |some hh=>simp only[Option.map_some,jE,jg];cases ai I hh<;>rfl
  |some ll=>
   simp only[Option.map_some]
   cases ai I ll with
   |int kk n=>
    simp only[nE,ml]
    cases hi with
    |none=>simp[jE,jg]
    |some hh=>simp only[Option.map_some,jE,jg];cases ai I hh<;>rfl
   |_=>rfl
 |_=>rfl
def vX(k:List Value->Prop):Option (List Value)->Prop
 |some r=>k r
 |none=>False
@[congr] theorem asE{k:List Value->Prop}{a a':Option (List Value)}(h:tick a=a'):vX k a=vX k a':=by subst h;rfl
def ai5{k:List Value->Prop}{r:List Value}:vX k (some r)=k r:=bj
variable {parts:List (Nat×Operand)}{z:Value}{pl:List (Nat×Nat)}
def ama(hz:du P t=some z)(hp:jo P t=some pl):
 aS E ⟨dst,.build t parts.toArray,ty,pos,af,g⟩ I ds U nx pn=vX (λr=>nx (aA I dst (.agg r.toArray)) ds U) (qu pl z.cells.toList (parts.map λp=>(p.1,ai I p.2))):=by
 simp only[aS,hz,hp,vX];rfl
variable {e:TypeId}
def amb{zs:List Value}(hb:kQ P t n=some (e,pl,zs)):
 aS E ⟨dst,.buildSlice t n parts.toArray,ty,pos,af,g⟩ I ds U nx pn=vX (λr=>ta U λb=>nx (aA I dst (.slice (some ⟨b,0,none⟩) n n)) ds (U.set b (.cells r.toArray e))) (qu pl zs (parts.map λp=>(p.1,ai I p.2))):=by
 simp only[aS,hb,vX];rfl
variable {a:TypeId}
def amw:aS E ⟨dst,.typeAssert x t a true,ty,pos,af,g⟩ I ds U nx pn=
 lh (wpOp E ⟨dst,.typeAssert x t a true,ty,pos,af,g⟩ I ds U nx pn) (λv=>nx (aA I dst v) ds U) (lv P a (ai I x)):=by
 simp only[aS,lh]
 cases lv P a (ai I x)<;>rfl
variable {v:Value}
def apm(h:ik P a=true):lv P a (.iface a v)=some (.tuple #[v,.bool true]):=by
 unfold ik at h;simp only[lv]
 cases hu:P.underlying a with
 |none=>rw[hu]at h;cases h
 |some d=>rw[hu]at h;cases d<;>first|(simp at h;done)|simp
def apk{u:TypeId}(h:ik P a=true)(hz:du P a=some z)(aE:(u==a)=false):lv P a (.iface u v)=some (.tuple #[z,.bool false]):=by
 unfold ik at h;have aE:¬u=a:=aV aE;simp only[lv]
 cases hu:P.underlying a with
 |none=>rw[hu]at h;cases h
 |some d=>rw[hu]at h;cases d<;>first|(simp at h;done)|simp[aE,hz]
def api(h:ik P a=true)(hz:du P a=some z):lv P a .nilIface=some (.tuple #[z,.bool false]):=by
 unfold ik at h;simp only[lv]
 cases hu:P.underlying a with
 |none=>rw[hu]at h;cases h
 |some d=>rw[hu]at h;cases d<;>first|(simp at h;done)|simp[hz]
def El(k:Value->Prop):Value->Prop
 | .iface t v=>k (.iface t v)
 |_=>False
@[congr] theorem asW{v':Value}(h:tick v=v'):El k v=El k v':=by subst h;rfl
def alO:El k (.iface t v)=k (.iface t v):=bj
def amp:aS E ⟨dst,.panic x,ty,pos,af,g⟩ I ds U nx pn=El (λv=>pn [{v:=v,recovered:=false}] U) (ai I x):=by
 simp only[aS];unfold El
 cases ai I x<;>simp
def Bz(p:Prop)(k:ByteArray->Prop):Value->Prop
 | .string s=>k s
 |_=>p
@[congr] theorem as8{k:ByteArray->Prop}{v':Value}(h:tick v=v'):Bz p k v=Bz p k v':=by subst h;rfl
def anE{k:ByteArray->Prop}{s:ByteArray}:Bz p k (.string s)=k s:=bj
def dG(l:List UInt8):List Value:=l.map λb=>.int .u8 b.toNat
def Ox(l:List UInt8):vg (B l)=(dG l).toArray:=by simp[vg,B,dG]
def As(U:Hp)(e:TypeId)(s:ByteArray)(k:Nat->Nat->Hp->Prop):Prop:=∀b pad z,U.f b=none->k b pad (U.set b (.cells (vg s++Array.replicate pad (.int .u8 0)) e z))
@[congr] theorem arS{s:ByteArray}{k:Nat->Nat->Hp->Prop}(_:tick 0=jl):As U e s k=As U e s k:=rfl
def amu{src d:TypeId}(he:lB P src d=some e):aS E ⟨dst,.convert src d x,ty,pos,af,g⟩ I ds U nx pn=
 Bz (aS E ⟨dst,.convert src d x,ty,pos,af,g⟩ I ds U nx pn) (λs=>As U e s λb pad ae=>nx (aA I dst (.slice (some ⟨b,0,none⟩) s.size (s.size+pad))) ds ae) (ai I x):=by
 unfold Bz;split
 ·rename_i s hx;simp only[aS,hx]
  have:lY P src d (.string s)=none:=by
   unfold lB at he;split at he
   ·rename_i e' hs hd;simp[lY,hs,hd]
   ·cases he
  rw[this,he];rfl
 ·rfl
def ZF{k:IntKind}{n:Int}:(Value.int k n).cells= #[.int k n]:=bj
def ZC{b:Bool}:(Value.bool b).cells= #[.bool b]:=bj
def ZL{b:ByteArray}:(Value.string b).cells= #[.string b]:=bj
def ZJ{b:Option Addr}:(Value.pointer b).cells= #[.pointer b]:=bj
def ZK{b:Option Addr}:(Value.slice b n c).cells= #[.slice b n c]:=bj
def ZG{b:Option Nat}:(Value.map b).cells= #[.map b]:=bj
def ZE:(Value.iface t v).cells= #[.iface t v]:=bj
def ZI:Value.nilIface.cells= #[.nilIface]:=bj
def ZD{f:Fn}{x y:Array Value}:(Value.func f x y).cells= #[.func f x y]:=bj
def ZH:Value.nilFunc.cells= #[.nilFunc]:=bj
def IE{c:Array Value}:(Value.agg c).cells=c:=bj
def Pw(l:List Value)(i j:Nat):l.toArray.extract i j=((l.drop i).take (j-i)).toArray:=by simp[List.extract_eq_take_drop]
def alY{vs c:List Value}{k:Obj->Prop}:xO P t off (.agg vs.toArray) k (.cells c.toArray e (0,0))=
 jd (off+vs.length<=c.length/\cC P t=vs.length/\vs.all di=true) (k (.cells (wy c off vs).toArray e (0,0))):=by
 have hs:di (.agg vs.toArray)=false:=rfl
 have e1:c.toArray.extract 0 off++(Value.agg vs.toArray).cells++c.toArray.extract (off+(Value.agg vs.toArray).cells.size) c.toArray.size=(wy c off vs).toArray:=by simp only[IE,wy,Pw,List.drop_zero,Nat.sub_zero,List.append_toArray,List.size_toArray];congr 2;rw[List.take_of_length_le];simp
 simp only[xO,hs,Bool.false_eq_true,if_false,e1,jd];have e3:vs.toArray.all di=vs.all di:=ak;simp only[IE,e3];simp only[List.size_toArray,true_and,and_assoc]
def adi(s9:Nat):∀r c,c<=s9->Builtin.growBy s9 r c<=s9+(s9+768)/4:=by
 intro r
 induction r with
 |zero=>intro c h;simp[Builtin.growBy];omega
 |succ r ih=>
  intro c h;unfold Builtin.growBy;by_cases hc:c>=s9
  ·rw[if_pos hc];omega
  ·rw[if_neg hc];by_cases h2:c+(c+768)/4<=s9
   ·exact ih _ h2
   ·cases r with
    |zero=>simp only[Builtin.growBy];omega
    |succ r=>unfold Builtin.growBy;rw[if_pos aa];omega
def nextslicecap_le{s9 old:Nat}(h:old<s9):Builtin.nextslicecap s9 old<=2*s9+192:=by
 unfold Builtin.nextslicecap;split
 ·omega
 ·split
  ·omega
  ·have:=adi s9 4 old aa;omega
def iM(U:Hp)(z n:Nat):Value->Option (Array Value)
 | .slice (some a) _ _=>cellsOf U a (n*z)
 | .slice none _ _=>some #[]
 | .string s=>some (vg (s.extract 0 n))
 |_=>none
def s7:Value->Option Nat
 | .slice _ n _=>some n
 | .string s=>some s.size
 |_=>none
def ZB{a:Addr}{r:Array Value}(h:cellsOf U a n=some r):∃c e z,U.f a.block=some (.cells c e z)/\a.spot=none/\a.off+n<=c.size/\r=c.extract a.off (a.off+n):=by
 unfold cellsOf at h;split at h
 ·rename_i c e z hb;split at h
  ·rename_i hc;exact⟨c,e,z,hb,hc.1,hc.2,(Option.some.inj h).symm⟩
  ·cases h
 ·cases h
def Co{z:Nat}{r:Array Value}{Q:Array Value->Hp->Prop}{H:Halt->Hp->Prop}(h:iM U z n v=some r)(k:Q r U):wpS P (Builtin.firstCells z n v) Q H U:=by
 unfold iM at h;split at h
 ·rename_i a _ _;obtain⟨c,e,zz,hb,hs,hl,rfl⟩:=ZB h;simp only[Builtin.firstCells,loadCells];refine M0 hb hs _ 0 #[] Q aa ?_;simpa using k
 ·simp only[Builtin.firstCells,bl];cases h;exact k
 ·simp only[Builtin.firstCells,bl];cases h;exact k
 ·cases h
structure oC (P:Program) (t:TypeId) where
 e:TypeId
 z:Nat
 zero:Array Value
 bytes:Nat
 hu:P.underlying t=some (.slice e)
 hi:∃i zv,P.info? e=some i/\i.size=z/\i.zero=some zv/\zv.cells=zero/\i.bytes=bytes
def Bj(P:Program)(t:TypeId):Bool:=match P.underlying t with|some (.int _)=>false|some _=>true|none=>false
def ss{u:TypeId}{y:Operand}(el:oC P t){base:Option Addr}{l:Nat}{old new:Array Value}(hu:Bj P u=true)(hx:ai I x=.slice base l c)(hn:s7 (ai I y)=some n)(hold:iM U el.z l (.slice base l c)=some old)(iL:iM U el.z n (ai I y)=some new)(fJ:(2*(l+n)+192)*el.bytes<=2^48)(afq:l+n<=9223372036854775807)(xj:l+n<=c->∃ae,(match base with
  |some a=>∃cs e,U.f a.block=some (.cells cs e (0,0))/\a.spot=none/\a.off+l*el.z+new.size<=cs.size/\new.all di=true/\
   ae=U.set a.block (.cells (cs.extract 0 (a.off+l*el.z)++new++cs.extract (a.off+l*el.z+new.size) cs.size) e (0,0))
  |none=>ae=U)/\nx (aA I dst (.slice base (l+n) c)) ds ae)(fK:c<l+n->∀b cap,U.f b=none->l+n<=cap->nx (aA I dst (.slice (some ⟨b,0,none⟩) (l+n) cap)) ds (U.set b (.cells (old++new++Builtin.zeroCells el.zero (cap-(l+n))) el.e))):
 aS E ⟨dst,.call ⟨.builtin .append,#[x,y],#[t,u]⟩,ty,pos,af,g⟩ I ds U nx pn:=by
 have ji:=el.hu;obtain⟨i,zv,hi,hz,hzero,A0,hb⟩:=el.hi;show wpOp E _ I ds U nx pn
 have afi:∀(Q:Nat->Hp->Prop) (H:Halt->Hp->Prop),Q n U->wpS P (Builtin.lenOf (ai I y)) Q H U:=by
  intro Q H q
  cases hv:ai I y<;>rw[hv]at hn<;>first|(simp only[s7,Option.some.injEq]at hn;subst hn;exact q)|cases hn
 have hzs:∃d,P.underlying u=some d/\∀k,d≠.int k:=by
  unfold Bj at hu;split at hu
  ·cases hu
  ·rename_i d hd aE;exact⟨d,aE,λk hk=>hd k hk⟩
  ·cases hu
 obtain⟨d,hd,FU⟩:=hzs;unfold wpOp;simp only[execOp,resolve,aF,bl,invoke];show wpS P (do pure (Next.value (<-Builtin.append_ #[t,u] ty (#[x,y].map (ai I)))):Sem Next) _ _ _;rw[lE];have e1: #[x,y].map (ai I)= #[.slice base l c,ai I y]:=by simp[hx]
 rw[e1];simp only[Builtin.append_,List.getElem?_toArray,List.getElem?_cons_zero,List.getElem?_cons_succ,aF,eg,ji,sizeOf,fO,hi,bl,hd];simp only[Bool.false_eq_true,if_false,Bool.not_false,if_true,aF];refine afi _ _ ?_;by_cases hc:l+n<=c
 ·rw[if_pos hc];simp only[aF,hz];refine Co iL ?_;obtain⟨ae,kx,hk⟩:=xj hc
  cases base with
  |none=>simp only at kx;subst kx;exact hk
  |some a=>
   obtain⟨cs,e',cD,cS,hle,lK,rfl⟩:=kx;simp only[aF];have hsp:(a.add (l*el.z))=⟨a.block,a.off+l*el.z,none⟩:=Addr.Ff cS _;rw[hsp];refine ER (e:=e') (a:=⟨a.block,a.off+l*el.z,none⟩) rfl new.toList 0 cs U _ cD (aV hle) (aV lK) ?_;show nx (aA I dst (Value.slice (some a) (l+n) c)) ds _;simpa using hk
 ·rw[if_neg hc];simp only[aF,fO,hi,hz,hb]
  rw[if_neg (by intro⟨h1,_⟩;have:IntKind.i64.max=9223372036854775807:=an
                omega)]
  have Gk:=nextslicecap_le (show c<l+n by omega);simp only[aF,fO,hi,hb];rw[if_neg (by have:=Nat.mul_le_mul_right el.bytes Gk;omega)];simp only[aF,HL];rw[if_neg (by simp[Question.forced])];intro tt;have AH:l+n<=(Question.appendCap (l+n) c el.e).cut tt:=by simp only[Question.cut];omega
  simp only[fO,hi,askRoom]
  have fin:wpS P (do
   let old<-Builtin.firstCells el.z l (Value.slice base l c)
   let new<-Builtin.firstCells el.z n (ai I y)
   let r<-zeroValue el.e
   let q<-newRow el.e (old++new++Builtin.zeroCells r.cells ((Question.appendCap (l+n) c el.e).cut tt-(l+n)))
   pure (Value.slice (some q) (l+n) ((Question.appendCap (l+n) c el.e).cut tt)))
   (λv U=>pB (λv ae=>nx (aA I dst v) ds ae) (λd ae=>nx (aA I dst undef) (d::ds) ae)
    (λf args ae=>aw E f args ae (xL (λv ae=>nx (aA I dst v) ds ae) pn)) (Next.value v) U)
   (se λv ae=>pn [{v:=v,recovered:=false}] ae) U:=by
   simp only[aF];refine Co hold (Co iL ?_);simp only[zeroValue,aF,fO,hi,hzero,bl,newRow,xY,A0];intro b cE;exact fK aa b _ cE AH
  simp only[aF]at fin;split
  ·simp only[M1];exact⟨rfl,fin⟩
  ·simp only[bl];exact fin
variable {α:Type}
def aU(f:α->Value)(l:List (α×Value×Nat))(c:Nat):Obj:=.map (l.map λe=>⟨f e.1,e.2.1,e.2.2⟩).toArray c
structure mA (P:Program) (t:TypeId) {α:Type} [DecidableEq α] (f:α->Value) where
 key:TypeId
 elem:TypeId
 kind:TypeDesc
 hu:P.underlying t=some (.map key elem)
 hk:P.underlying key=some kind
 hs:(∃k,kind=.int k)\/kind=.string
 same:∀a b:α,Instr.sameNow kind (f a) (f b)=some (decide (a=b))
 refl:∀a:α,Instr.sameBits 10000 (f a) (f a)=true
def dt [DecidableEq α](l:List (α×Value×Nat))(k:α):Option (α×Value×Nat):=l.find? λe=>decide (e.1=k)
def jk [DecidableEq α](l:List (α×Value×Nat))(k:α)(v:Value)(c:Nat):List (α×Value×Nat):=
 if(dt l k).isSome then l.map λe=>if e.1=k then(k,v,e.2.2)else e else l++[(k,v,c)]
def jB [DecidableEq α](l:List (α×Value×Nat))(k:α)(c:Nat):Nat:=if(dt l k).isSome then c else c+1
def rQ [DecidableEq α](l:List (α×Value×Nat))(k:α):List (α×Value×Nat):=l.filter λe=>decide (e.1≠k)
def jI(l:List (α×Value×Nat)):Prop:=(l.map (·.1)).Nodup
section
variable {P:Program}{E:Env P}{Q:Post}{I:av}{ds:List Deferred}{U:Hp}{dst:Option Tmp}{ty:TypeId}{pos:String}{af:Array Edge}{g:Option (Nat×Bool)}{nx:av->List Deferred->Hp->Prop}{pn:List PanicEntry->Hp->Prop}{t:TypeId}{c:Nat}
variable {α:Type}[DecidableEq α]{f:α->Value}{l:List (α×Value×Nat)}{k:α}
def abQ (ko:mA P t f)(k:α):∀(l:List (α×Value×Nat)) (i:Nat),Instr.findNow ko.kind (f k) (l.map λe=>⟨f e.1,e.2.1,e.2.2⟩) i=
 some ((l.findIdx? λe=>decide (e.1=k)).bind λj=>(l[j]?).map λe=>(i+j,e.2.1)):=by
 intro l
 induction l with
 |nil=>intro i;rfl
 |cons e l ih=>
  intro i;simp only[List.map_cons,Instr.findNow,ko.same];by_cases h:k=e.1
  ·subst h;simp[List.findIdx?_cons]
  ·have h':¬e.1=k:=λx=>h x.symm;simp only[h,decide_false,List.findIdx?_cons,h',Bool.false_eq_true,if_false];rw[ih];congr 1
   cases hx:(List.findIdx? (λe=>decide (e.1=k)) l)with
   |none=>rfl
   |some j=>
    simp only[Option.map_some,Option.bind_some,List.getElem?_cons_succ];congr 1;funext e;congr 1;omega
def I7 (ko:mA P t f){Q:Option (Nat×Value)->Hp->Prop}{H:Halt->Hp->Prop}
 (h:Q ((l.findIdx? λe=>decide (e.1=k)).bind λj=>(l[j]?).map λe=>(j,e.2.1)) U):
 wpS P (Instr.findKey ko.key (f k) (l.map λe=>⟨f e.1,e.2.1,e.2.2⟩)) Q H U:=by
 simp only[Instr.findKey,aF,eg,ko.hk,abQ ko,bl];simpa using h
def IG (ko:mA P t f){b:Bool}{v:Value}{n:Nat}{Q:Unit->Hp->Prop}{H:Halt->Hp->Prop}(h:Q () U):wpS P (Instr.checkKey b (n+1) ko.key v) Q H U:=by unfold Instr.checkKey;simp only[aF,eg,ko.hk];rcases ko.hs with⟨kk,hk⟩|hk<;>rw[hk]<;>exact h
def abP (l:List (α×Value×Nat))(k:α):((l.findIdx? λe=>decide (e.1=k)).bind λj=>(l[j]?).map λe=>(j,e.2.1)).map (·.2)=(dt l k).map (·.2.1):=by
 unfold dt
 induction l with
 |nil=>rfl
 |cons e l ih=>
  by_cases h:e.1=k
  ·simp[h,List.findIdx?_cons]
  ·simp only[List.findIdx?_cons,h,decide_false,Bool.false_eq_true,if_false,List.find?_cons];rw[<-ih]
   cases hx:(List.findIdx? (λe=>decide (e.1=k)) l)with
   |none=>rfl
   |some j=>
    simp only[Option.map_some,Option.bind_some,List.getElem?_cons_succ]
    cases l[j]? <;>rfl
def jU {x i:Operand}{ok:Bool}(ko:mA P t f){z:Value}{b:Nat}(hz:du P ko.elem=some z)(hx:ai I x=.map (some b))(hb:U.f b=some (aU f l c))(hi:ai I i=f k)
 (h:nx (aA I dst (if ok then .tuple #[((dt l k).map (·.2.1)).getD z,.bool (dt l k).isSome]else((dt l k).map (·.2.1)).getD z)) ds U):
 aS E ⟨dst,.lookup t x i ok,ty,pos,af,g⟩ I ds U nx pn:=by
 show wpOp E _ I ds U nx pn;unfold wpOp;simp only[execOp,Instr.lookup,aF,eg,ko.hu,hx,hi,oz,bl];refine⟨_,hb,rfl,?_⟩;simp only[aU,aF,bl];refine IG ko ?_;refine I7 ko ?_;have hm:=abP l k;generalize((l.findIdx? λe=>decide (e.1=k)).bind λj=>(l[j]?).map λe=>(j,e.2.1))=r at hm|-
 cases r with
 |none=>
  simp only[Option.map_none]at hm
  have hn:dt l k=none:=by
   cases rI:dt l k with
   |none=>rfl
   |some e=>rw[rI]at hm;cases hm
  rw[hn]at h;simp only[zeroValue,aF,fO];unfold du at hz
  cases vC:P.info? ko.elem with
  |none=>rw[vC]at hz;cases hz
  |some ie=>
   rw[vC]at hz;simp only at hz;simp only[hz,bl];exact h
 |some p=>
  obtain⟨j,v⟩:=p;simp only[Option.map_some]at hm
  cases rI:dt l k with
  |none=>rw[rI]at hm;cases hm
  |some e=>
   rw[rI]at hm h;simp only[Option.map_some,Option.some.injEq]at hm;subst hm;exact h
def I6 (l:List (α×Value×Nat))(k:α):(l.findIdx? λe=>decide (e.1=k))=none↔dt l k=none:=by unfold dt;simp[List.findIdx?_eq_none_iff,List.find?_eq_none]
def ajr (l:List (α×Value×Nat))(k:α)(v:Value)(hu:jI l){j:Nat}(hj:(l.findIdx? λe=>decide (e.1=k))=some j):
 l.modify j (λe=>(k,v,e.2.2))=l.map λe=>if e.1=k then(k,v,e.2.2)else e:=by
 induction l generalizing j with
 |nil=>cases hj
 |cons e l ih=>
  simp only[jI,List.map_cons,List.nodup_cons]at hu;by_cases h:e.1=k
  ·have:j=0:=by simp[List.findIdx?_cons,h]at hj;exact hj.symm
   subst this;simp only[List.modify_zero_cons,List.map_cons,h,if_true];congr 1;rw[<-List.map_id l];rw[List.map_map];apply List.map_congr_left;intro a ha
   have:a.1≠k:=by intro e2;apply hu.1;rw[h,<-e2];exact List.mem_map_of_mem ha
   simp[this]
  ·simp only[List.findIdx?_cons,h,decide_false,Bool.false_eq_true,if_false]at hj;obtain⟨i,hi,rfl⟩:=Option.map_eq_some_iff.1 hj;simp only[List.modify_succ_cons,List.map_cons,h,if_false];rw[ih hu.2 hi]
def TH (ko:mA P t f){b:Nat}{v:Value}(hu:jI l)(hb:U.f b=some (aU f l c)){Q:Unit->Hp->Prop}{H:Halt->Hp->Prop}
 (h:Q () (U.set b (aU f (jk l k v c) (jB l k c)))):wpS P (Instr.mapUpdate t (.map (some b)) (f k) v) Q H U:=by
 simp only[Instr.mapUpdate,aF,eg,ko.hu,oz];refine⟨_,hb,rfl,?_⟩;simp only[aU,aF];refine IG ko (I7 ko ?_)
 cases hx:(l.findIdx? λe=>decide (e.1=k))with
 |none=>
  have hm:=(I6 l k).1 hx;simp only[Option.bind_none,tv];refine⟨_,hb,rfl,?_⟩;simp only[jk,jB,hm,Option.isSome_none,Bool.false_eq_true,if_false]at h;simpa[aU]using h
 |some j=>
  have hm:(dt l k).isSome=true:=by
   cases hq:dt l k with
   |none=>rw[(I6 l k).2 hq]at hx;cases hx
   |some _=>rfl
  have hj:j<l.length:=(List.findIdx?_eq_some_iff_findIdx_eq.1 hx).1
  have hk:(l[j]).1=k:=by have:=List.findIdx?_eq_some_iff_getElem.1 hx;obtain⟨_,h2,_⟩:=this;simpa using h2
  simp only[Option.bind_some,List.getElem?_eq_getElem hj,Option.map_some,aF,Instr.keyThatStays]
  have e1:((l.map λe=>(⟨f e.1,e.2.1,e.2.2⟩:MapEntry)).toArray[j]?.map (·.key)).getD (f k)=f k:=by simp[hj,hk]
  rw[e1];simp only[ko.refl,if_true,bl,tv];refine⟨_,hb,rfl,?_⟩;simp only[jk,jB,hm,if_true]at h
  have e2:((l.map λe=>(⟨f e.1,e.2.1,e.2.2⟩:MapEntry)).toArray.modify j λe=>{e with key:=f k,val:=v})=
   ((l.map λe=>if e.1=k then(k,v,e.2.2)else e).map λe=>(⟨f e.1,e.2.1,e.2.2⟩:MapEntry)).toArray:=by
   rw[<-ajr l k v hu hx];apply Array.ext';simp only[Array.toList_modify];apply List.ext_getElem?;intro i;simp only[List.getElem?_modify,List.getElem?_map];by_cases AQ:j=i
   ·subst AQ;cases l[j]? <;>simp
   ·cases l[i]? <;>simp[AQ]
  rw[e2];exact h
def Bc {m i v:Operand}(ko:mA P t f){b:Nat}(hu:jI l)(hm:ai I m=.map (some b))(hb:U.f b=some (aU f l c))(hi:ai I i=f k)
 (h:nx (aA I dst undef) ds (U.set b (aU f (jk l k (ai I v) c) (jB l k c)))):aS E ⟨dst,.mapUpdate t m i v,ty,pos,af,g⟩ I ds U nx pn:=by
 show wpOp E _ I ds U nx pn;unfold wpOp;simp only[execOp,Vj,hm,hi];exact TH ko hu hb h
def agQ {m i v:Operand}(ko:mA P t f){b:Nat}(hu:jI l)(hm:ai I m=.map (some b))(hb:U.f b=some (aU f l c))(hi:ai I i=f k)
 (h:nx (aA I dst undef) ds (U.set b (aU f (jk l k (ai I v) c) (jB l k c)))):aS E ⟨dst,.insert t m i v,ty,pos,af,g⟩ I ds U nx pn:=by
 show wpOp E _ I ds U nx pn;unfold wpOp;simp only[execOp,Vj,hm,hi];exact TH ko hu hb h
def abk (l:List (α×Value×Nat))(k:α)(hu:jI l){j:Nat}(hj:(l.findIdx? λe=>decide (e.1=k))=some j):l.eraseIdx j=rQ l k:=by
 unfold rQ
 induction l generalizing j with
 |nil=>cases hj
 |cons e l ih=>
  simp only[jI,List.map_cons,List.nodup_cons]at hu;by_cases h:e.1=k
  ·have:j=0:=by simp[List.findIdx?_cons,h]at hj;exact hj.symm
   subst this;simp only[List.eraseIdx_cons_zero,List.filter_cons,h,ne_eq,not_true_eq_false,decide_false,Bool.false_eq_true,if_false]
   symm
   rw[List.filter_eq_self];intro a ha
   have:a.1≠k:=by intro e2;apply hu.1;rw[h,<-e2];exact List.mem_map_of_mem ha
   simp[this]
  ·simp only[List.findIdx?_cons,h,decide_false,Bool.false_eq_true,if_false]at hj;obtain⟨i,hi,rfl⟩:=Option.map_eq_some_iff.1 hj;simp only[List.eraseIdx_cons_succ,List.filter_cons,h,ne_eq,not_false_eq_true,decide_true,if_true];rw[ih hu.2 hi]
def aaR (l:List (α×Value×Nat))(k:α)(h:dt l k=none):rQ l k=l:=by unfold rQ dt at*;rw[List.filter_eq_self];intro a ha;have:=List.find?_eq_none.1 h a ha;simpa using this
def Cg {m i:Operand}{u:TypeId}(ko:mA P t f){b:Nat}(hu:jI l)(hm:ai I m=.map (some b))(hb:U.f b=some (aU f l c))(hi:ai I i=f k)
 (h:nx (aA I dst (.tuple #[])) ds (U.set b (aU f (rQ l k) c))):aS E ⟨dst,.call ⟨.builtin .delete,#[m,i],#[t,u]⟩,ty,pos,af,g⟩ I ds U nx pn:=by
 show wpOp E _ I ds U nx pn;unfold wpOp;simp only[execOp,resolve,aF,bl,invoke];show wpS P (do pure (Next.value (<-Builtin.delete_ #[t,u] ty (#[m,i].map (ai I)))):Sem Next) _ _ _;rw[lE];have e1: #[m,i].map (ai I)= #[.map (some b),f k]:=by simp[hm,hi]
 rw[e1];simp only[Builtin.delete_,List.getElem?_toArray,List.getElem?_cons_zero,List.getElem?_cons_succ,aF,eg,ko.hu,oz];refine⟨_,hb,rfl,?_⟩;simp only[aU,aF];refine IG ko (I7 ko ?_)
 cases hx:(l.findIdx? λe=>decide (e.1=k))with
 |none=>
  simp only[Option.bind_none,aF,tv];refine⟨_,hb,rfl,?_⟩;rw[aaR l k ((I6 l k).1 hx)]at h;exact h
 |some j=>
  have hj:j<l.length:=(List.findIdx?_eq_some_iff_findIdx_eq.1 hx).1;simp only[Option.bind_some,List.getElem?_eq_getElem hj,Option.map_some,aF,tv];refine⟨_,hb,rfl,?_⟩
  have e2:((l.map λe=>(⟨f e.1,e.2.1,e.2.2⟩:MapEntry)).toArray.eraseIdxIfInBounds j)=((rQ l k).map λe=>(⟨f e.1,e.2.1,e.2.2⟩:MapEntry)).toArray:=by rw[<-abk l k hu hx];apply Array.ext';simp[List.eraseIdx_eq_take_drop_succ]
  rw[e2];exact h
def Z6 {m:Operand}{b:Nat}{d:TypeDesc}(ht:P.underlying t=some d)(hm:ai I m=.map (some b))(hb:U.f b=some (aU f l c))
 (h:nx (aA I dst (.tuple #[])) ds (U.set b (aU f [] c))):aS E ⟨dst,.call ⟨.builtin .clear,#[m],#[t]⟩,ty,pos,af,g⟩ I ds U nx pn:=by
 show wpOp E _ I ds U nx pn;unfold wpOp;simp only[execOp,resolve,aF,bl,invoke];show wpS P (do pure (Next.value (<-Builtin.clear_ #[t] ty (#[m].map (ai I)))):Sem Next) _ _ _;rw[lE];have e1: #[m].map (ai I)= #[.map (some b)]:=by simp[hm]
 rw[e1];simp only[Builtin.clear_,List.getElem?_toArray,List.getElem?_cons_zero,aF,eg,ht]
 cases d<;>(simp only[oz];refine⟨_,hb,rfl,?_⟩;simp only[aU,aF,tv];exact⟨_,hb,rfl,h⟩)
def GW {m:Operand}{b:Nat}(ko:mA P t f)(hm:ai I m=.map (some b))(hb:U.f b=some (aU f l c))
 (h:nx (aA I dst (.int .i64 l.length)) ds U):wpOp E ⟨dst,.call ⟨.builtin .len,#[m],#[t]⟩,ty,pos,af,g⟩ I ds U nx pn:=by
 unfold wpOp;simp only[execOp,resolve,aF,bl,invoke];show wpS P (do pure (Next.value (<-Builtin.len_ #[t] ty (#[m].map (ai I)))):Sem Next) _ _ _;rw[lE];have e1: #[m].map (ai I)= #[.map (some b)]:=by simp[hm]
 rw[e1];simp only[Builtin.len_,List.getElem?_toArray,List.getElem?_cons_zero,aF,eg,ko.hu,oz];refine⟨_,hb,rfl,?_⟩;simp only[aU,bl];show nx (aA I dst (goInt _)) ds U;simpa[goInt]using h
def TY {m:Operand}{b:Nat}(ko:mA P t f)(hm:ai I m=.map (some b))(hb:U.f b=some (aU f l c))
 (h:∀it,U.f it=none->nx (aA I dst (pV it)) ds (U.set it (.mapIter (some b) c #[] c))):aS E ⟨dst,.range t m,ty,pos,af,g⟩ I ds U nx pn:=by
 show wpOp E _ I ds U nx pn;unfold wpOp;simp only[execOp,Instr.range,aF,eg,ko.hu,hm,oz];refine⟨_,hb,rfl,?_⟩;simp only[aU,bl,aF,xY];exact h
def Ta {x:Operand}{it b:Nat}{seen:Array Nat}(hx:ai I x=pV it)(hi:U.f it=some (.mapIter (some b) c seen c))(hb:U.f b=some (aU f l c))(hold:∀e∈l,e.2.2<c)
 (h1:∀e∈l,e.2.2∉seen->nx (aA I dst (.tuple #[.bool true,f e.1,e.2.1])) ds (U.set it (.mapIter (some b) c (seen.push e.2.2) c)))
 (h2:(∀e∈l,e.2.2∈seen)->nx (aA I dst (.tuple #[.bool false])) ds U):aS E ⟨dst,.next x false,ty,pos,af,g⟩ I ds U nx pn:=by
 show wpOp E _ I ds U nx pn;unfold wpOp;simp only[execOp,Instr.next,aF,hx,oz];refine⟨_,hi,rfl,?_⟩;simp only[aF,oz];refine⟨_,hb,rfl,?_⟩;simp only[aU]
 have eV:(!seen.isEmpty&& !(l.map λe=>(⟨f e.1,e.2.1,e.2.2⟩:MapEntry)).toArray.isEmpty&&(l.map λe=>(⟨f e.1,e.2.1,e.2.2⟩:MapEntry)).toArray.all (λx=>decide (x.born>=c)))=false:=by
  cases l with
  |nil=>simp
  |cons e l=>
   have:=hold e ak;simp;omega
 rw[eV];simp only[Bool.false_eq_true,if_false,aF,HL]
 have iL:((l.map λe=>(⟨f e.1,e.2.1,e.2.2⟩:MapEntry)).toArray.filter (λe=> !seen.contains e.born)).filter (λe=>decide (e.born>=c))= #[]:=by rw[Array.filter_eq_empty_iff];intro a ha;simp only[List.filter_toArray,List.mem_toArray,List.mem_filter,List.mem_map]at ha;obtain⟨⟨e,he,rfl⟩,_⟩:=ha;have:=hold e he;simp;omega
 have afC:((l.map λe=>(⟨f e.1,e.2.1,e.2.2⟩:MapEntry)).toArray.filter (λe=> !seen.contains e.born)).filter (λe=>decide (e.born<c))=
  (((l.filter λe=> !seen.contains e.2.2)).map λe=>(⟨f e.1,e.2.1,e.2.2⟩:MapEntry)).toArray:=by
  apply Array.ext';simp only[List.filter_toArray,List.filter_map,List.filter_filter];simp only[Function.comp_def];congr 1;apply List.filter_congr;intro e he;have:=hold e he;simp[this]
 rw[iL,afC];generalize Rj:l.filter (λe=> !seen.contains e.2.2)=left
 have pS:∀e∈left,e∈l/\e.2.2∉seen:=by intro e he;rw[<-Rj]at he;have:=List.mem_filter.1 he;exact⟨this.1,by simpa using this.2⟩
 cases left with
 |nil=>
  rw[if_pos (by simp[Question.forced])]
  have fi:nx (aA I dst (Value.tuple #[.bool false])) ds U:=h2 λe he=>by have:=List.filter_eq_nil_iff.1 Rj e he;simpa using this
  have e0:((if((([]:List (α×Value×Nat)).map λ(e:α×Value×Nat)=>(⟨f e.1,e.2.1,e.2.2⟩:MapEntry)).toArray.isEmpty=true)then(#[none]:Array (Option MapEntry))else#[])++
   ((([]:List (α×Value×Nat)).map λ(e:α×Value×Nat)=>(⟨f e.1,e.2.1,e.2.2⟩:MapEntry)).toArray++ #[]).map some)[0]? =some none:=ak
  rw[e0];exact fi
 |cons e0 left=>
  have aek:(if((e0::left).map λ(e:α×Value×Nat)=>(⟨f e.1,e.2.1,e.2.2⟩:MapEntry)).toArray.isEmpty=true then(#[none]:Array (Option MapEntry))else#[])++
   (((e0::left).map λ(e:α×Value×Nat)=>(⟨f e.1,e.2.1,e.2.2⟩:MapEntry)).toArray++ #[]).map some=((e0::left).map λ(e:α×Value×Nat)=>some (⟨f e.1,e.2.1,e.2.2⟩:MapEntry)).toArray:=by
   simp
  rw[aek]
  have hgo:∀i,i<(e0::left).length->wpS P (match(((e0::left).map λ(e:α×Value×Nat)=>some (⟨f e.1,e.2.1,e.2.2⟩:MapEntry)).toArray)[i]? with
   |some (some e)=>do
    setObj it (.mapIter (some b) c (seen.push e.born) c)
    pure (Value.tuple #[.bool true,e.key,e.val])
   |some none=>pure (Value.tuple #[.bool false])
   |none=>stuck "Next: no such candidate")
   (λa U=>wpS P (pure (Next.value a))
    (pB (λv ae=>nx (aA I dst v) ds ae) (λd ae=>nx (aA I dst undef) (d::ds) ae) λf args ae=>
     aw E f args ae (xL (λv ae=>nx (aA I dst v) ds ae) pn))
    (se λv ae=>pn [{v:=v,recovered:=false}] ae) U)
   (se λv ae=>pn [{v:=v,recovered:=false}] ae) U:=by
   intro i aZ
   have hc:(((e0::left).map λ(e:α×Value×Nat)=>some (⟨f e.1,e.2.1,e.2.2⟩:MapEntry)).toArray)[i]? =some (some ⟨f ((e0::left)[i]).1,((e0::left)[i]).2.1,((e0::left)[i]).2.2⟩):=by rw[List.getElem?_toArray,List.getElem?_map,List.getElem?_eq_getElem aZ];rfl
   rw[hc];simp only[aF,tv];have hm:=pS _ (List.getElem_mem aZ);exact⟨_,hi,rfl,h1 _ hm.1 hm.2⟩
  split
  ·exact hgo 0 ak
  ·intro tt;refine hgo _ ?_;simp only[Question.cut,List.size_toArray,List.length_map];exact Nat.mod_lt _ ak
end
end Go.Qw
