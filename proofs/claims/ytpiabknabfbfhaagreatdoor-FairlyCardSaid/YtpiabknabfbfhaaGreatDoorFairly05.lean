/- Part 5. -/
import Derived.Test.YtpiabknabfbfhaaGreatDoorFairly04
set_option linter.all false
set_option maxRecDepth 100000
set_option maxHeartbeats 8000000
namespace Go.Qw
open Go Go.Conc
def sL(P:Program)(s d:TypeId):Option IntKind:=if Dy P s then KL P d else none
variable {P:Program}{E:Env P}{N:Nat}{Q:Post}{ρ:av}{ds:List Deferred}{σ:Hp}
def YU{x y:Code}:cK E N (.seq x y) Q ρ ds σ=cK E N x (kX (cK E N y Q) Q) ρ ds σ:=bl
def YS{id:Nat}{l:List Oper}:cK E N (.region id l.toArray false) Q ρ ds σ=iY E N l.toArray Q l ρ ds σ:=bl
def YV:cK E N .skip Q ρ ds σ=Q .normal ρ ds σ:=bl
def YR{l:Nat}:cK E N (.label l) Q ρ ds σ=Q .normal ρ ds σ:=bl
def YT:cK E N .ret Q ρ ds σ=Q .ret ρ ds σ:=bl
def YQ{id:Nat}:cK E N (.exit id) Q ρ ds σ=Q (.exit id) ρ ds σ:=bl
def YO{id:Nat}{c:Code}:cK E N (.block id c) Q ρ ds σ=cK E N c (pq id Q) ρ ds σ:=bl
def YP{x:Operand}{a b:Code}:cK E N (.cond x a b) Q ρ ds σ=sX (cK E N a Q ρ ds σ) (cK E N b Q ρ ds σ) (ak ρ x):=by
 simp only[cK];unfold sX;generalize ak ρ x=v
 cases v<;>first|rfl|(rename_i t;cases t<;>rfl)
variable {nx:av->List Deferred->Hp->Prop}
def aoS{aD:av}:kX nx Q .normal aD ds σ=nx aD ds σ:=bl
def aoR{id:Nat}:kX nx Q (.exit id) ρ ds σ=Q (.exit id) ρ ds σ:=bl
def aoU:kX nx Q .ret ρ ds σ=Q .ret ρ ds σ:=bl
def aoT{ch:List PanicEntry}:kX nx Q (.panic ch) ρ ds σ=Q (.panic ch) ρ ds σ:=bl
def W7{id:Nat}:pq id Q .normal ρ ds σ=Q .normal ρ ds σ:=bl
def W9{id:Nat}:pq id Q .ret ρ ds σ=Q .ret ρ ds σ:=bl
def W8{id:Nat}{ch:List PanicEntry}:pq id Q (.panic ch) ρ ds σ=Q (.panic ch) ρ ds σ:=bl
def W5{id:Nat}:pq id Q (.exit id) ρ ds σ=Q .normal ρ ds σ:=by simp[pq]
def W6{id i:Nat}(h:(i==id)=false):pq id Q (.exit i) ρ ds σ=Q (.exit i) ρ ds σ:=by have:¬i=id:=aZ h;simp[pq,this]
variable {e:Ex}{jj:Nat}
@[congr] theorem asP(_:tick 0=jj):kX nx Q e ρ ds σ=kX nx Q e ρ ds σ:=rfl
@[congr] theorem aqM{id:Nat}(_:tick 0=jj):pq id Q e ρ ds σ=pq id Q e ρ ds σ:=rfl
def iE(P:Program)(t:TypeId):Option Nat:=match s5 P t with
 |some e=>(P.info? e).map (·.size)
 |none=>none
variable {t:TypeId}{z:Nat}
def Ck(h:iE P t=some z):∃e,s5 P t=some e/\(P.info? e).isSome=true/\cq P e=z:=by
 unfold iE at h;split at h
 ·rename_i e he;obtain⟨i,hi,rfl⟩:=Option.map_eq_some_iff.1 h;exact⟨e,he,by simp[hi],by simp[cq,hi]⟩
 ·cases h
def ua(p:Prop)(z:Nat)(k:Value->Prop)(i:Value)(x:Value):Prop:=
 match x,i with
 | .slice (some a) n _,.int _ j=>jd (0<=j/\j<n) (k (.pointer (some (a.add (j.toNat*z)))))
 |_,_=>p
variable {p:Prop}{k:Value->Prop}{i' x':Value}
@[congr] theorem ar9{i x:Value}(hi:tick i=i')(hx:tick x=x'):ua p z k i x=ua p z k i' x':=by subst hi;subst hx;rfl
variable {kk:IntKind}{j:Int}{off n c:Nat}
def ahr{b:Nat}:ua p z k (.int kk j) (.slice (some ⟨b,off,none⟩) n c)=jd (0<=j/\j<n) (k (.pointer (some ⟨b,off+j.toNat*z,none⟩))):=by simp only[ua,Ii]
variable {dst:Option Tmp}{ty:TypeId}{pos:String}{af:Array Edge}{g:Option (Nat×Bool)}{pn:List PanicEntry->Hp->Prop}
def al0{x i:Operand}(h:iE P t=some z):aT E ⟨dst,.indexAddr t x i,ty,pos,af,g⟩ ρ ds σ nx pn=
 ua (wpOp E ⟨dst,.indexAddr t x i,ty,pos,af,g⟩ ρ ds σ nx pn) z (λv=>nx (aB ρ dst v) ds σ) (ak ρ i) (ak ρ x):=by
 obtain⟨e,he,hs,hz⟩:=Ck h;subst hz;simp only[aT];unfold ua;generalize ak ρ x=vx;generalize ak ρ i=vi;rw[he]
 cases vx with
 |slice a n c=>
  cases a with
  |none=>cases vi<;>rfl
  |some a=>
   cases vi with
   |int kk j=>simp only[hs,and_true,jd]
   |_=>rfl
 |_=>cases vi<;>rfl
def pr(l:List UInt8)(i:Nat):Int:=((l.getD i 0).toNat:Int)
def Af(p:Prop)(k:Value->Prop)(i:Value)(x:Value):Prop:=
 match x,i with
 | .string s,.int _ j=>∃h:0<=j/\j.toNat<s.size,k (.int .u8 (s[j.toNat]'h.2).toNat)
 |_,_=>p
@[congr] theorem aqP{i x:Value}(hi:tick i=i')(hx:tick x=x'):Af p k i x=Af p k i' x':=by subst hi;subst hx;rfl
def Yv{l:List UInt8}:Af p k (.int kk j) (.string (B l))=jd (0<=j/\j<l.length) (k (.int .u8 (pr l j.toNat))):=by
 simp only[Af,jd,eq_iff_iff]
 have e:∀h:j.toNat<(B l).size,(B l)[j.toNat]'h=l.getD j.toNat 0:=by
  intro h;have hk:j.toNat<l.length:=by rw[wB]at h;exact h
  have:(B l)[j.toNat]'h=l[j.toNat]'hk:=by show(B l).data[j.toNat]=_;simp[B]
  rw[this,List.getD_eq_getElem?_getD,List.getElem?_eq_getElem hk,Option.getD_some]
 constructor
 ·rintro⟨h,k1⟩;rw[e]at k1;have:=h.2;rw[wB]at this;exact⟨⟨h.1,aa⟩,k1⟩
 ·rintro⟨h,k1⟩;have h2:j.toNat<(B l).size:=by rw[wB];omega
  exact⟨⟨h.1,h2⟩,by rw[e];exact k1⟩
def alZ{x i:Operand}(h:pU P t=true):aT E ⟨dst,.index t x i,ty,pos,af,g⟩ ρ ds σ nx pn=
 Af (wpOp E ⟨dst,.index t x i,ty,pos,af,g⟩ ρ ds σ nx pn) (λv=>nx (aB ρ dst v) ds σ) (ak ρ i) (ak ρ x):=by
 simp only[aT,Ez h];unfold Af;generalize ak ρ x=vx;generalize ak ρ i=vi
 cases vx<;>cases vi<;>rfl
def mg(k:Int->Prop):Option Value->Prop
 |none=>k 0
 |some (.int _ i)=>k i
 |_=>False
variable {k:Int->Prop}{a a':Option Value}
@[congr] theorem ase(h:tick a=a'):mg k a=mg k a':=by subst h;rfl
def aiC:mg k none=k 0:=bl
def aiD{i:Int}:mg k (some (.int kk i))=k i:=bl
def je(n:Nat)(k:Int->Prop):Option Value->Prop
 |none=>k n
 |some (.int _ i)=>k i
 |_=>False
@[congr] theorem arJ(h:tick a=a'):je n k a=je n k a':=by subst h;rfl
def aev:je n k none=k n:=bl
def aew{i:Int}:je n k (some (.int kk i))=k i:=bl
def xR(p:Prop)(k:Value->Prop)(lo hi:Option Value):Value->Prop
 | .string s=>mg (λl=>je s.size (λh=>jd (0<=l/\l<=h/\h<=s.size) (k (.string (s.extract l.toNat h.toNat)))) hi) lo
 |_=>p
variable {k:Value->Prop}{lo hi:Option Value}
@[congr] theorem asM{x:Value}(h:tick x=x'):xR p k lo hi x=xR p k lo hi x':=by subst h;rfl
def aok{s:List UInt8}:xR p k lo hi (.string (B s))=
 mg (λl=>je s.length (λh=>jd (0<=l/\l<=h/\h<=s.length) (k (.string (B ((s.drop l.toNat).take (h.toNat-l.toNat)))))) hi) lo:=by
 show mg (λl=>je (B s).size (λh=>jd (0<=l/\l<=h/\h<=(B s).size) (k (.string ((B s).extract l.toNat h.toNat)))) hi) lo=_;rw[wB];congr 1;funext l;congr 1;funext h;rw[Na]
def amb{x:Operand}{lo hi:Option Operand}(h:pU P t=true):aT E ⟨dst,.slice t x lo hi none,ty,pos,af,g⟩ ρ ds σ nx pn=
 xR (wpOp E ⟨dst,.slice t x lo hi none,ty,pos,af,g⟩ ρ ds σ nx pn) (λv=>nx (aB ρ dst v) ds σ) (lo.map (ak ρ)) (hi.map (ak ρ)) (ak ρ x):=by
 simp only[aT,Ez h];generalize ak ρ x=vx
 cases vx with
 |string s=>
  simp only[xR,jd]
  cases lo with
  |none=>
   simp only[Option.map_none,nA,mg]
   cases hi with
   |none=>simp[jy,je]
   |some hh=>simp only[Option.map_some,jy,je];cases ak ρ hh<;>rfl
  |some ll=>
   simp only[Option.map_some]
   cases ak ρ ll with
   |int kk n=>
    simp only[nA,mg]
    cases hi with
    |none=>simp[jy,je]
    |some hh=>simp only[Option.map_some,jy,je];cases ak ρ hh<;>rfl
   |_=>rfl
 |_=>rfl
def wF(p:Prop)(z:Nat)(k:Value->Prop)(lo hi:Option Value):Value->Prop
 | .slice a n c=>mg (λl=>je n (λh=>jd (0<=l/\l<=h/\h<=c) (k (.slice (if c=l.toNat then a else a.map (·.add (l.toNat*z))) (h.toNat-l.toNat) (c-l.toNat)))) hi) lo
 |_=>p
@[congr] theorem asO{x:Value}(h:tick x=x'):wF p z k lo hi x=wF p z k lo hi x':=by subst h;rfl
def aoM{a:Option Addr}:wF p z k lo hi (.slice a n c)=
 mg (λl=>je n (λh=>jd (0<=l/\l<=h/\h<=c) (k (.slice (if c=l.toNat then a else a.map (·.add (l.toNat*z))) (h.toNat-l.toNat) (c-l.toNat)))) hi) lo:=rfl
variable {x:Operand}
def ama{lo hi:Option Operand}(h:iE P t=some z):aT E ⟨dst,.slice t x lo hi none,ty,pos,af,g⟩ ρ ds σ nx pn=
 wF (wpOp E ⟨dst,.slice t x lo hi none,ty,pos,af,g⟩ ρ ds σ nx pn) z (λv=>nx (aB ρ dst v) ds σ) (lo.map (ak ρ)) (hi.map (ak ρ)) (ak ρ x):=by
 obtain⟨e,he,hs,hz⟩:=Ck h;subst hz;simp only[aT,Hq he];generalize ak ρ x=vx
 cases vx with
 |slice a n c=>
  simp only[wF,jd,hs,and_true]
  cases lo with
  |none=>
   simp only[Option.map_none,nA,mg]
   cases hi with
   |none=>simp[jy,je]
   |some hh=>simp only[Option.map_some,jy,je];cases ak ρ hh<;>rfl
  |some ll=>
   simp only[Option.map_some]
   cases ak ρ ll with
   |int kk n=>
    simp only[nA,mg]
    cases hi with
    |none=>simp[jy,je]
    |some hh=>simp only[Option.map_some,jy,je];cases ak ρ hh<;>rfl
   |_=>rfl
 |_=>rfl
def vS(k:List Value->Prop):Option (List Value)->Prop
 |some r=>k r
 |none=>False
@[congr] theorem ash{k:List Value->Prop}{a a':Option (List Value)}(h:tick a=a'):vS k a=vS k a':=by subst h;rfl
def aiM{k:List Value->Prop}{r:List Value}:vS k (some r)=k r:=bl
variable {parts:List (Nat×Operand)}{z:Value}{pl:List (Nat×Nat)}
def alT(hz:dq P t=some z)(hp:jk P t=some pl):
 aT E ⟨dst,.build t parts.toArray,ty,pos,af,g⟩ ρ ds σ nx pn=vS (λr=>nx (aB ρ dst (.agg r.toArray)) ds σ) (qk pl z.cells.toList (parts.map λp=>(p.1,ak ρ p.2))):=by
 simp only[aT,hz,hp,vS];rfl
variable {e:TypeId}
def alU{zs:List Value}(hb:kI P t n=some (e,pl,zs)):
 aT E ⟨dst,.buildSlice t n parts.toArray,ty,pos,af,g⟩ ρ ds σ nx pn=vS (λr=>sP σ λb=>nx (aB ρ dst (.slice (some ⟨b,0,none⟩) n n)) ds (σ.set b (.cells r.toArray e))) (qk pl zs (parts.map λp=>(p.1,ak ρ p.2))):=by
 simp only[aT,hb,vS];rfl
variable {a:TypeId}
def amf:aT E ⟨dst,.typeAssert x t a true,ty,pos,af,g⟩ ρ ds σ nx pn=
 kU (wpOp E ⟨dst,.typeAssert x t a true,ty,pos,af,g⟩ ρ ds σ nx pn) (λv=>nx (aB ρ dst v) ds σ) (kW P a (ak ρ x)):=by
 simp only[aT,kU]
 cases kW P a (ak ρ x)<;>rfl
variable {v:Value}
def ao6(h:iv P a=true):kW P a (.iface a v)=some (.tuple #[v,.bool true]):=by
 unfold iv at h;simp only[kW]
 cases hu:P.underlying a with
 |none=>rw[hu]at h;cases h
 |some d=>rw[hu]at h;cases d<;>first|(simp at h;done)|simp
def ao4{u:TypeId}(h:iv P a=true)(hz:dq P a=some z)(aE:(u==a)=false):kW P a (.iface u v)=some (.tuple #[z,.bool false]):=by
 unfold iv at h;have aE:¬u=a:=aZ aE;simp only[kW]
 cases hu:P.underlying a with
 |none=>rw[hu]at h;cases h
 |some d=>rw[hu]at h;cases d<;>first|(simp at h;done)|simp[aE,hz]
def ao2(h:iv P a=true)(hz:dq P a=some z):kW P a .nilIface=some (.tuple #[z,.bool false]):=by
 unfold iv at h;simp only[kW]
 cases hu:P.underlying a with
 |none=>rw[hu]at h;cases h
 |some d=>rw[hu]at h;cases d<;>first|(simp at h;done)|simp[hz]
def Ee(k:Value->Prop):Value->Prop
 | .iface t v=>k (.iface t v)
 |_=>False
@[congr] theorem asz{v':Value}(h:tick v=v'):Ee k v=Ee k v':=by subst h;rfl
def alx:Ee k (.iface t v)=k (.iface t v):=bl
def al8:aT E ⟨dst,.panic x,ty,pos,af,g⟩ ρ ds σ nx pn=Ee (λv=>pn [{v:=v,recovered:=false}] σ) (ak ρ x):=by
 simp only[aT];unfold Ee
 cases ak ρ x<;>simp
def By(p:Prop)(k:ByteArray->Prop):Value->Prop
 | .string s=>k s
 |_=>p
@[congr] theorem asL{k:ByteArray->Prop}{v':Value}(h:tick v=v'):By p k v=By p k v':=by subst h;rfl
def ann{k:ByteArray->Prop}{s:ByteArray}:By p k (.string s)=k s:=bl
def dB(l:List UInt8):List Value:=l.map λb=>.int .u8 b.toNat
def On(l:List UInt8):uZ (B l)=(dB l).toArray:=by simp[uZ,B,dB]
def As(σ:Hp)(e:TypeId)(s:ByteArray)(k:Nat->Nat->Hp->Prop):Prop:=∀b pad z,σ.f b=none->k b pad (σ.set b (.cells (uZ s++Array.replicate pad (.int .u8 0)) e z))
@[congr] theorem arw{s:ByteArray}{k:Nat->Nat->Hp->Prop}(_:tick 0=jj):As σ e s k=As σ e s k:=rfl
def amd{src d:TypeId}(he:kY P src d=some e):aT E ⟨dst,.convert src d x,ty,pos,af,g⟩ ρ ds σ nx pn=
 By (aT E ⟨dst,.convert src d x,ty,pos,af,g⟩ ρ ds σ nx pn) (λs=>As σ e s λb pad ae=>nx (aB ρ dst (.slice (some ⟨b,0,none⟩) s.size (s.size+pad))) ds ae) (ak ρ x):=by
 unfold By;split
 ·rename_i s hx;simp only[aT,hx]
  have:lU P src d (.string s)=none:=by
   unfold kY at he;split at he
   ·rename_i e' hs hd;simp[lU,hs,hd]
   ·cases he
  rw[this,he];rfl
 ·rfl
def Zf{k:IntKind}{n:Int}:(Value.int k n).cells= #[.int k n]:=bl
def Zc{b:Bool}:(Value.bool b).cells= #[.bool b]:=bl
def Zl{b:ByteArray}:(Value.string b).cells= #[.string b]:=bl
def Zj{b:Option Addr}:(Value.pointer b).cells= #[.pointer b]:=bl
def Zk{b:Option Addr}:(Value.slice b n c).cells= #[.slice b n c]:=bl
def Zg{b:Option Nat}:(Value.map b).cells= #[.map b]:=bl
def Ze:(Value.iface t v).cells= #[.iface t v]:=bl
def Zi:Value.nilIface.cells= #[.nilIface]:=bl
def Zd{f:Fn}{x y:Array Value}:(Value.func f x y).cells= #[.func f x y]:=bl
def Zh:Value.nilFunc.cells= #[.nilFunc]:=bl
def Ix{c:Array Value}:(Value.agg c).cells=c:=bl
def Pq(l:List Value)(i j:Nat):l.toArray.extract i j=((l.drop i).take (j-i)).toArray:=by simp[List.extract_eq_take_drop]
def alH{vs c:List Value}{k:Obj->Prop}:xL P t off (.agg vs.toArray) k (.cells c.toArray e (0,0))=
 jd (off+vs.length<=c.length/\cq P t=vs.length/\vs.all de=true) (k (.cells (v8 c off vs).toArray e (0,0))):=by
 have hs:de (.agg vs.toArray)=false:=rfl
 have e1:c.toArray.extract 0 off++(Value.agg vs.toArray).cells++c.toArray.extract (off+(Value.agg vs.toArray).cells.size) c.toArray.size=(v8 c off vs).toArray:=by simp only[Ix,v8,Pq,List.drop_zero,Nat.sub_zero,List.append_toArray,List.size_toArray];congr 2;rw[List.take_of_length_le];simp
 simp only[xL,hs,Bool.false_eq_true,if_false,e1,jd];have e3:vs.toArray.all de=vs.all de:=al;simp only[Ix,e3];simp only[List.size_toArray,true_and,and_assoc]
def acN(sO:Nat):∀r c,c<=sO->Builtin.growBy sO r c<=sO+(sO+768)/4:=by
 intro r
 induction r with
 |zero=>intro c h;simp[Builtin.growBy];omega
 |succ r ih=>
  intro c h;unfold Builtin.growBy;by_cases hc:c>=sO
  ·rw[if_pos hc];omega
  ·rw[if_neg hc];by_cases h2:c+(c+768)/4<=sO
   ·exact ih _ h2
   ·cases r with
    |zero=>simp only[Builtin.growBy];omega
    |succ r=>unfold Builtin.growBy;rw[if_pos aa];omega
def nextslicecap_le{sO old:Nat}(h:old<sO):Builtin.nextslicecap sO old<=2*sO+192:=by
 unfold Builtin.nextslicecap;split
 ·omega
 ·split
  ·omega
  ·have:=acN sO 4 old aa;omega
def iL(σ:Hp)(z n:Nat):Value->Option (Array Value)
 | .slice (some a) _ _=>cellsOf σ a (n*z)
 | .slice none _ _=>some #[]
 | .string s=>some (uZ (s.extract 0 n))
 |_=>none
def sN:Value->Option Nat
 | .slice _ n _=>some n
 | .string s=>some s.size
 |_=>none
def Zb{a:Addr}{r:Array Value}(h:cellsOf σ a n=some r):∃c e z,σ.f a.block=some (.cells c e z)/\a.spot=none/\a.off+n<=c.size/\r=c.extract a.off (a.off+n):=by
 unfold cellsOf at h;split at h
 ·rename_i c e z hb;split at h
  ·rename_i hc;exact⟨c,e,z,hb,hc.1,hc.2,(Option.some.inj h).symm⟩
  ·cases h
 ·cases h
def Co{z:Nat}{r:Array Value}{Q:Array Value->Hp->Prop}{H:Halt->Hp->Prop}(h:iL σ z n v=some r)(k:Q r σ):wpS P (Builtin.firstCells z n v) Q H σ:=by
 unfold iL at h;split at h
 ·rename_i a _ _;obtain⟨c,e,zz,hb,hs,hl,rfl⟩:=Zb h;simp only[Builtin.firstCells,loadCells];refine MU hb hs _ 0 #[] Q aa ?_;simpa using k
 ·simp only[Builtin.firstCells,bq];cases h;exact k
 ·simp only[Builtin.firstCells,bq];cases h;exact k
 ·cases h
structure ou (P:Program) (t:TypeId) where
 e:TypeId
 z:Nat
 zero:Array Value
 bytes:Nat
 hu:P.underlying t=some (.slice e)
 hi:∃i zv,P.info? e=some i/\i.size=z/\i.zero=some zv/\zv.cells=zero/\i.bytes=bytes
def Bh(P:Program)(t:TypeId):Bool:=match P.underlying t with|some (.int _)=>false|some _=>true|none=>false
def rW{u:TypeId}{y:Operand}(el:ou P t){base:Option Addr}{l:Nat}{old new:Array Value}(hu:Bh P u=true)(hx:ak ρ x=.slice base l c)(hn:sN (ak ρ y)=some n)(hold:iL σ el.z l (.slice base l c)=some old)(iF:iL σ el.z n (ak ρ y)=some new)(fM:(2*(l+n)+192)*el.bytes<=2^48)(ae2:l+n<=9223372036854775807)(xf:l+n<=c->∃ae,(match base with
  |some a=>∃cs e,σ.f a.block=some (.cells cs e (0,0))/\a.spot=none/\a.off+l*el.z+new.size<=cs.size/\new.all de=true/\
   ae=σ.set a.block (.cells (cs.extract 0 (a.off+l*el.z)++new++cs.extract (a.off+l*el.z+new.size) cs.size) e (0,0))
  |none=>ae=σ)/\nx (aB ρ dst (.slice base (l+n) c)) ds ae)(fN:c<l+n->∀b cap,σ.f b=none->l+n<=cap->nx (aB ρ dst (.slice (some ⟨b,0,none⟩) (l+n) cap)) ds (σ.set b (.cells (old++new++Builtin.zeroCells el.zero (cap-(l+n))) el.e))):
 aT E ⟨dst,.call ⟨.builtin .append,#[x,y],#[t,u]⟩,ty,pos,af,g⟩ ρ ds σ nx pn:=by
 have jq:=el.hu;obtain⟨i,zv,hi,hz,hzero,AY,hb⟩:=el.hi;show wpOp E _ ρ ds σ nx pn
 have aeU:∀(Q:Nat->Hp->Prop) (H:Halt->Hp->Prop),Q n σ->wpS P (Builtin.lenOf (ak ρ y)) Q H σ:=by
  intro Q H q
  cases hv:ak ρ y<;>rw[hv]at hn<;>first|(simp only[sN,Option.some.injEq]at hn;subst hn;exact q)|cases hn
 have hzs:∃d,P.underlying u=some d/\∀k,d≠.int k:=by
  unfold Bh at hu;split at hu
  ·cases hu
  ·rename_i d hd aE;exact⟨d,aE,λk hk=>hd k hk⟩
  ·cases hu
 obtain⟨d,hd,FQ⟩:=hzs;unfold wpOp;simp only[execOp,resolve,aH,bq,invoke];show wpS P (do pure (Next.value (<-Builtin.append_ #[t,u] ty (#[x,y].map (ak ρ)))):Sem Next) _ _ _;rw[lf];have e1: #[x,y].map (ak ρ)= #[.slice base l c,ak ρ y]:=by simp[hx]
 rw[e1];simp only[Builtin.append_,List.getElem?_toArray,List.getElem?_cons_zero,List.getElem?_cons_succ,aH,dZ,jq,sizeOf,fQ,hi,bq,hd];simp only[Bool.false_eq_true,if_false,Bool.not_false,if_true,aH];refine aeU _ _ ?_;by_cases hc:l+n<=c
 ·rw[if_pos hc];simp only[aH,hz];refine Co iF ?_;obtain⟨ae,jX,hk⟩:=xf hc
  cases base with
  |none=>simp only at jX;subst jX;exact hk
  |some a=>
   obtain⟨cs,e',dE,cQ,hle,lB,rfl⟩:=jX;simp only[aH];have hsp:(a.add (l*el.z))=⟨a.block,a.off+l*el.z,none⟩:=Addr.E8 cQ _;rw[hsp];refine EM (e:=e') (a:=⟨a.block,a.off+l*el.z,none⟩) rfl new.toList 0 cs σ _ dE (aZ hle) (aZ lB) ?_;show nx (aB ρ dst (Value.slice (some a) (l+n) c)) ds _;simpa using hk
 ·rw[if_neg hc];simp only[aH,fQ,hi,hz,hb]
  rw[if_neg (by intro⟨h1,_⟩;have:IntKind.i64.max=9223372036854775807:=ai
                omega)]
  have Gi:=nextslicecap_le (show c<l+n by omega);simp only[aH,fQ,hi,hb];rw[if_neg (by have:=Nat.mul_le_mul_right el.bytes Gi;omega)];simp only[aH,HH];rw[if_neg (by simp[Question.forced])];intro tt;have AH:l+n<=(Question.appendCap (l+n) c el.e).cut tt:=by simp only[Question.cut];omega
  simp only[fQ,hi,askRoom]
  have fin:wpS P (do
   let old<-Builtin.firstCells el.z l (Value.slice base l c)
   let new<-Builtin.firstCells el.z n (ak ρ y)
   let r<-zeroValue el.e
   let q<-newRow el.e (old++new++Builtin.zeroCells r.cells ((Question.appendCap (l+n) c el.e).cut tt-(l+n)))
   pure (Value.slice (some q) (l+n) ((Question.appendCap (l+n) c el.e).cut tt)))
   (λv σ=>pd (λv ae=>nx (aB ρ dst v) ds ae) (λd ae=>nx (aB ρ dst undef) (d::ds) ae)
    (λf args ae=>ay E f args ae (xI (λv ae=>nx (aB ρ dst v) ds ae) pn)) (Next.value v) σ)
   (rP λv ae=>pn [{v:=v,recovered:=false}] ae) σ:=by
   simp only[aH];refine Co hold (Co iF ?_);simp only[zeroValue,aH,fQ,hi,hzero,bq,newRow,xW,AY];intro b cz;exact fN aa b _ cz AH
  simp only[aH]at fin;split
  ·simp only[MV];exact⟨rfl,fin⟩
  ·simp only[bq];exact fin
variable {α:Type}
def aU(f:α->Value)(l:List (α×Value×Nat))(c:Nat):Obj:=.map (l.map λe=>⟨f e.1,e.2.1,e.2.2⟩).toArray c
structure mr (P:Program) (t:TypeId) {α:Type} [DecidableEq α] (f:α->Value) where
 key:TypeId
 elem:TypeId
 kind:TypeDesc
 hu:P.underlying t=some (.map key elem)
 hk:P.underlying key=some kind
 hs:(∃k,kind=.int k)\/kind=.string
 same:∀a b:α,Instr.sameNow kind (f a) (f b)=some (decide (a=b))
 refl:∀a:α,Instr.sameBits 10000 (f a) (f a)=true
def dn [DecidableEq α](l:List (α×Value×Nat))(k:α):Option (α×Value×Nat):=l.find? λe=>decide (e.1=k)
def ji [DecidableEq α](l:List (α×Value×Nat))(k:α)(v:Value)(c:Nat):List (α×Value×Nat):=
 if(dn l k).isSome then l.map λe=>if e.1=k then(k,v,e.2.2)else e else l++[(k,v,c)]
def ju [DecidableEq α](l:List (α×Value×Nat))(k:α)(c:Nat):Nat:=if(dn l k).isSome then c else c+1
def rF [DecidableEq α](l:List (α×Value×Nat))(k:α):List (α×Value×Nat):=l.filter λe=>decide (e.1≠k)
def jD(l:List (α×Value×Nat)):Prop:=(l.map (·.1)).Nodup
section
variable {P:Program}{E:Env P}{Q:Post}{ρ:av}{ds:List Deferred}{σ:Hp}{dst:Option Tmp}{ty:TypeId}{pos:String}{af:Array Edge}{g:Option (Nat×Bool)}{nx:av->List Deferred->Hp->Prop}{pn:List PanicEntry->Hp->Prop}{t:TypeId}{c:Nat}
variable {α:Type}[DecidableEq α]{f:α->Value}{l:List (α×Value×Nat)}{k:α}
def abt (ko:mr P t f)(k:α):∀(l:List (α×Value×Nat)) (i:Nat),Instr.findNow ko.kind (f k) (l.map λe=>⟨f e.1,e.2.1,e.2.2⟩) i=
 some ((l.findIdx? λe=>decide (e.1=k)).bind λj=>(l[j]?).map λe=>(i+j,e.2.1)):=by
 intro l
 induction l with
 |nil=>intro i;rfl
 |cons e l ih=>
  intro i;simp only[List.map_cons,Instr.findNow,ko.same];by_cases h:k=e.1
  ·subst h;simp[List.findIdx?_cons]
  ·have h':¬e.1=k:=λx=>h x.symm;simp only[h,decide_false,List.findIdx?_cons,h',Bool.false_eq_true,if_false];rw[ih];congr 1
   cases hx:(List.findIdx? (λe=>decide (e.1=k)) l)with
   |none=>rfl
   |some j=>
    simp only[Option.map_some,Option.bind_some,List.getElem?_cons_succ];congr 1;funext e;congr 1;omega
def IX (ko:mr P t f){Q:Option (Nat×Value)->Hp->Prop}{H:Halt->Hp->Prop}
 (h:Q ((l.findIdx? λe=>decide (e.1=k)).bind λj=>(l[j]?).map λe=>(j,e.2.1)) σ):
 wpS P (Instr.findKey ko.key (f k) (l.map λe=>⟨f e.1,e.2.1,e.2.2⟩)) Q H σ:=by
 simp only[Instr.findKey,aH,dZ,ko.hk,abt ko,bq];simpa using h
def Iz (ko:mr P t f){b:Bool}{v:Value}{n:Nat}{Q:Unit->Hp->Prop}{H:Halt->Hp->Prop}(h:Q () σ):wpS P (Instr.checkKey b (n+1) ko.key v) Q H σ:=by unfold Instr.checkKey;simp only[aH,dZ,ko.hk];rcases ko.hs with⟨kk,hk⟩|hk<;>rw[hk]<;>exact h
def abr (l:List (α×Value×Nat))(k:α):((l.findIdx? λe=>decide (e.1=k)).bind λj=>(l[j]?).map λe=>(j,e.2.1)).map (·.2)=(dn l k).map (·.2.1):=by
 unfold dn
 induction l with
 |nil=>rfl
 |cons e l ih=>
  by_cases h:e.1=k
  ·simp[h,List.findIdx?_cons]
  ·simp only[List.findIdx?_cons,h,decide_false,Bool.false_eq_true,if_false,List.find?_cons];rw[<-ih]
   cases hx:(List.findIdx? (λe=>decide (e.1=k)) l)with
   |none=>rfl
   |some j=>
    simp only[Option.map_some,Option.bind_some,List.getElem?_cons_succ]
    cases l[j]? <;>rfl
def jM {x i:Operand}{ok:Bool}(ko:mr P t f){z:Value}{b:Nat}(hz:dq P ko.elem=some z)(hx:ak ρ x=.map (some b))(hb:σ.f b=some (aU f l c))(hi:ak ρ i=f k)
 (h:nx (aB ρ dst (if ok then .tuple #[((dn l k).map (·.2.1)).getD z,.bool (dn l k).isSome]else((dn l k).map (·.2.1)).getD z)) ds σ):
 aT E ⟨dst,.lookup t x i ok,ty,pos,af,g⟩ ρ ds σ nx pn:=by
 show wpOp E _ ρ ds σ nx pn;unfold wpOp;simp only[execOp,Instr.lookup,aH,dZ,ko.hu,hx,hi,oj,bq];refine⟨_,hb,rfl,?_⟩;simp only[aU,aH,bq];refine Iz ko ?_;refine IX ko ?_;have hm:=abr l k;generalize((l.findIdx? λe=>decide (e.1=k)).bind λj=>(l[j]?).map λe=>(j,e.2.1))=r at hm|-
 cases r with
 |none=>
  simp only[Option.map_none]at hm
  have hn:dn l k=none:=by
   cases ru:dn l k with
   |none=>rfl
   |some e=>rw[ru]at hm;cases hm
  rw[hn]at h;simp only[zeroValue,aH,fQ];unfold dq at hz
  cases vu:P.info? ko.elem with
  |none=>rw[vu]at hz;cases hz
  |some ie=>
   rw[vu]at hz;simp only at hz;simp only[hz,bq];exact h
 |some p=>
  obtain⟨j,v⟩:=p;simp only[Option.map_some]at hm
  cases ru:dn l k with
  |none=>rw[ru]at hm;cases hm
  |some e=>
   rw[ru]at hm h;simp only[Option.map_some,Option.some.injEq]at hm;subst hm;exact h
def IW (l:List (α×Value×Nat))(k:α):(l.findIdx? λe=>decide (e.1=k))=none↔dn l k=none:=by unfold dn;simp[List.findIdx?_eq_none_iff,List.find?_eq_none]
def ai9 (l:List (α×Value×Nat))(k:α)(v:Value)(hu:jD l){j:Nat}(hj:(l.findIdx? λe=>decide (e.1=k))=some j):
 l.modify j (λe=>(k,v,e.2.2))=l.map λe=>if e.1=k then(k,v,e.2.2)else e:=by
 induction l generalizing j with
 |nil=>cases hj
 |cons e l ih=>
  simp only[jD,List.map_cons,List.nodup_cons]at hu;by_cases h:e.1=k
  ·have:j=0:=by simp[List.findIdx?_cons,h]at hj;exact hj.symm
   subst this;simp only[List.modify_zero_cons,List.map_cons,h,if_true];congr 1;rw[<-List.map_id l];rw[List.map_map];apply List.map_congr_left;intro a ha
   have:a.1≠k:=by intro e2;apply hu.1;rw[h,<-e2];exact List.mem_map_of_mem ha
   simp[this]
  ·simp only[List.findIdx?_cons,h,decide_false,Bool.false_eq_true,if_false]at hj;obtain⟨i,hi,rfl⟩:=Option.map_eq_some_iff.1 hj;simp only[List.modify_succ_cons,List.map_cons,h,if_false];rw[ih hu.2 hi]
def TC (ko:mr P t f){b:Nat}{v:Value}(hu:jD l)(hb:σ.f b=some (aU f l c)){Q:Unit->Hp->Prop}{H:Halt->Hp->Prop}
 (h:Q () (σ.set b (aU f (ji l k v c) (ju l k c)))):wpS P (Instr.mapUpdate t (.map (some b)) (f k) v) Q H σ:=by
 simp only[Instr.mapUpdate,aH,dZ,ko.hu,oj];refine⟨_,hb,rfl,?_⟩;simp only[aU,aH];refine Iz ko (IX ko ?_)
 cases hx:(l.findIdx? λe=>decide (e.1=k))with
 |none=>
  have hm:=(IW l k).1 hx;simp only[Option.bind_none,ta];refine⟨_,hb,rfl,?_⟩;simp only[ji,ju,hm,Option.isSome_none,Bool.false_eq_true,if_false]at h;simpa[aU]using h
 |some j=>
  have hm:(dn l k).isSome=true:=by
   cases hq:dn l k with
   |none=>rw[(IW l k).2 hq]at hx;cases hx
   |some _=>rfl
  have hj:j<l.length:=(List.findIdx?_eq_some_iff_findIdx_eq.1 hx).1
  have hk:(l[j]).1=k:=by have:=List.findIdx?_eq_some_iff_getElem.1 hx;obtain⟨_,h2,_⟩:=this;simpa using h2
  simp only[Option.bind_some,List.getElem?_eq_getElem hj,Option.map_some,aH,Instr.keyThatStays]
  have e1:((l.map λe=>(⟨f e.1,e.2.1,e.2.2⟩:MapEntry)).toArray[j]?.map (·.key)).getD (f k)=f k:=by simp[hj,hk]
  rw[e1];simp only[ko.refl,if_true,bq,ta];refine⟨_,hb,rfl,?_⟩;simp only[ji,ju,hm,if_true]at h
  have e2:((l.map λe=>(⟨f e.1,e.2.1,e.2.2⟩:MapEntry)).toArray.modify j λe=>{e with key:=f k,val:=v})=
   ((l.map λe=>if e.1=k then(k,v,e.2.2)else e).map λe=>(⟨f e.1,e.2.1,e.2.2⟩:MapEntry)).toArray:=by
   rw[<-ai9 l k v hu hx];apply Array.ext';simp only[Array.toList_modify];apply List.ext_getElem?;intro i;simp only[List.getElem?_modify,List.getElem?_map];by_cases AO:j=i
   ·subst AO;cases l[j]? <;>simp
   ·cases l[i]? <;>simp[AO]
  rw[e2];exact h
def Ba {m i v:Operand}(ko:mr P t f){b:Nat}(hu:jD l)(hm:ak ρ m=.map (some b))(hb:σ.f b=some (aU f l c))(hi:ak ρ i=f k)
 (h:nx (aB ρ dst undef) ds (σ.set b (aU f (ji l k (ak ρ v) c) (ju l k c)))):aT E ⟨dst,.mapUpdate t m i v,ty,pos,af,g⟩ ρ ds σ nx pn:=by
 show wpOp E _ ρ ds σ nx pn;unfold wpOp;simp only[execOp,Vc,hm,hi];exact TC ko hu hb h
def agu {m i v:Operand}(ko:mr P t f){b:Nat}(hu:jD l)(hm:ak ρ m=.map (some b))(hb:σ.f b=some (aU f l c))(hi:ak ρ i=f k)
 (h:nx (aB ρ dst undef) ds (σ.set b (aU f (ji l k (ak ρ v) c) (ju l k c)))):aT E ⟨dst,.insert t m i v,ty,pos,af,g⟩ ρ ds σ nx pn:=by
 show wpOp E _ ρ ds σ nx pn;unfold wpOp;simp only[execOp,Vc,hm,hi];exact TC ko hu hb h
def aaT (l:List (α×Value×Nat))(k:α)(hu:jD l){j:Nat}(hj:(l.findIdx? λe=>decide (e.1=k))=some j):l.eraseIdx j=rF l k:=by
 unfold rF
 induction l generalizing j with
 |nil=>cases hj
 |cons e l ih=>
  simp only[jD,List.map_cons,List.nodup_cons]at hu;by_cases h:e.1=k
  ·have:j=0:=by simp[List.findIdx?_cons,h]at hj;exact hj.symm
   subst this;simp only[List.eraseIdx_cons_zero,List.filter_cons,h,ne_eq,not_true_eq_false,decide_false,Bool.false_eq_true,if_false]
   symm
   rw[List.filter_eq_self];intro a ha
   have:a.1≠k:=by intro e2;apply hu.1;rw[h,<-e2];exact List.mem_map_of_mem ha
   simp[this]
  ·simp only[List.findIdx?_cons,h,decide_false,Bool.false_eq_true,if_false]at hj;obtain⟨i,hi,rfl⟩:=Option.map_eq_some_iff.1 hj;simp only[List.eraseIdx_cons_succ,List.filter_cons,h,ne_eq,not_false_eq_true,decide_true,if_true];rw[ih hu.2 hi]
def aas (l:List (α×Value×Nat))(k:α)(h:dn l k=none):rF l k=l:=by unfold rF dn at*;rw[List.filter_eq_self];intro a ha;have:=List.find?_eq_none.1 h a ha;simpa using this
def Ch {m i:Operand}{u:TypeId}(ko:mr P t f){b:Nat}(hu:jD l)(hm:ak ρ m=.map (some b))(hb:σ.f b=some (aU f l c))(hi:ak ρ i=f k)
 (h:nx (aB ρ dst (.tuple #[])) ds (σ.set b (aU f (rF l k) c))):aT E ⟨dst,.call ⟨.builtin .delete,#[m,i],#[t,u]⟩,ty,pos,af,g⟩ ρ ds σ nx pn:=by
 show wpOp E _ ρ ds σ nx pn;unfold wpOp;simp only[execOp,resolve,aH,bq,invoke];show wpS P (do pure (Next.value (<-Builtin.delete_ #[t,u] ty (#[m,i].map (ak ρ)))):Sem Next) _ _ _;rw[lf];have e1: #[m,i].map (ak ρ)= #[.map (some b),f k]:=by simp[hm,hi]
 rw[e1];simp only[Builtin.delete_,List.getElem?_toArray,List.getElem?_cons_zero,List.getElem?_cons_succ,aH,dZ,ko.hu,oj];refine⟨_,hb,rfl,?_⟩;simp only[aU,aH];refine Iz ko (IX ko ?_)
 cases hx:(l.findIdx? λe=>decide (e.1=k))with
 |none=>
  simp only[Option.bind_none,aH,ta];refine⟨_,hb,rfl,?_⟩;rw[aas l k ((IW l k).1 hx)]at h;exact h
 |some j=>
  have hj:j<l.length:=(List.findIdx?_eq_some_iff_findIdx_eq.1 hx).1;simp only[Option.bind_some,List.getElem?_eq_getElem hj,Option.map_some,aH,ta];refine⟨_,hb,rfl,?_⟩
  have e2:((l.map λe=>(⟨f e.1,e.2.1,e.2.2⟩:MapEntry)).toArray.eraseIdxIfInBounds j)=((rF l k).map λe=>(⟨f e.1,e.2.1,e.2.2⟩:MapEntry)).toArray:=by rw[<-aaT l k hu hx];apply Array.ext';simp[List.eraseIdx_eq_take_drop_succ]
  rw[e2];exact h
def ZI {m:Operand}{b:Nat}{d:TypeDesc}(ht:P.underlying t=some d)(hm:ak ρ m=.map (some b))(hb:σ.f b=some (aU f l c))
 (h:nx (aB ρ dst (.tuple #[])) ds (σ.set b (aU f [] c))):aT E ⟨dst,.call ⟨.builtin .clear,#[m],#[t]⟩,ty,pos,af,g⟩ ρ ds σ nx pn:=by
 show wpOp E _ ρ ds σ nx pn;unfold wpOp;simp only[execOp,resolve,aH,bq,invoke];show wpS P (do pure (Next.value (<-Builtin.clear_ #[t] ty (#[m].map (ak ρ)))):Sem Next) _ _ _;rw[lf];have e1: #[m].map (ak ρ)= #[.map (some b)]:=by simp[hm]
 rw[e1];simp only[Builtin.clear_,List.getElem?_toArray,List.getElem?_cons_zero,aH,dZ,ht]
 cases d<;>(simp only[oj];refine⟨_,hb,rfl,?_⟩;simp only[aU,aH,ta];exact⟨_,hb,rfl,h⟩)
def GS {m:Operand}{b:Nat}(ko:mr P t f)(hm:ak ρ m=.map (some b))(hb:σ.f b=some (aU f l c))
 (h:nx (aB ρ dst (.int .i64 l.length)) ds σ):wpOp E ⟨dst,.call ⟨.builtin .len,#[m],#[t]⟩,ty,pos,af,g⟩ ρ ds σ nx pn:=by
 unfold wpOp;simp only[execOp,resolve,aH,bq,invoke];show wpS P (do pure (Next.value (<-Builtin.len_ #[t] ty (#[m].map (ak ρ)))):Sem Next) _ _ _;rw[lf];have e1: #[m].map (ak ρ)= #[.map (some b)]:=by simp[hm]
 rw[e1];simp only[Builtin.len_,List.getElem?_toArray,List.getElem?_cons_zero,aH,dZ,ko.hu,oj];refine⟨_,hb,rfl,?_⟩;simp only[aU,bq];show nx (aB ρ dst (goInt _)) ds σ;simpa[goInt]using h
def TT {m:Operand}{b:Nat}(ko:mr P t f)(hm:ak ρ m=.map (some b))(hb:σ.f b=some (aU f l c))
 (h:∀it,σ.f it=none->nx (aB ρ dst (pV it)) ds (σ.set it (.mapIter (some b) c #[] c))):aT E ⟨dst,.range t m,ty,pos,af,g⟩ ρ ds σ nx pn:=by
 show wpOp E _ ρ ds σ nx pn;unfold wpOp;simp only[execOp,Instr.range,aH,dZ,ko.hu,hm,oj];refine⟨_,hb,rfl,?_⟩;simp only[aU,bq,aH,xW];exact h
def S7 {x:Operand}{it b:Nat}{seen:Array Nat}(hx:ak ρ x=pV it)(hi:σ.f it=some (.mapIter (some b) c seen c))(hb:σ.f b=some (aU f l c))(hold:∀e∈l,e.2.2<c)
 (h1:∀e∈l,e.2.2∉seen->nx (aB ρ dst (.tuple #[.bool true,f e.1,e.2.1])) ds (σ.set it (.mapIter (some b) c (seen.push e.2.2) c)))
 (h2:(∀e∈l,e.2.2∈seen)->nx (aB ρ dst (.tuple #[.bool false])) ds σ):aT E ⟨dst,.next x false,ty,pos,af,g⟩ ρ ds σ nx pn:=by
 show wpOp E _ ρ ds σ nx pn;unfold wpOp;simp only[execOp,Instr.next,aH,hx,oj];refine⟨_,hi,rfl,?_⟩;simp only[aH,oj];refine⟨_,hb,rfl,?_⟩;simp only[aU]
 have dY:(!seen.isEmpty&& !(l.map λe=>(⟨f e.1,e.2.1,e.2.2⟩:MapEntry)).toArray.isEmpty&&(l.map λe=>(⟨f e.1,e.2.1,e.2.2⟩:MapEntry)).toArray.all (λx=>decide (x.born>=c)))=false:=by
  cases l with
  |nil=>simp
  |cons e l=>
   have:=hold e al;simp;omega
 rw[dY];simp only[Bool.false_eq_true,if_false,aH,HH]
 have iF:((l.map λe=>(⟨f e.1,e.2.1,e.2.2⟩:MapEntry)).toArray.filter (λe=> !seen.contains e.born)).filter (λe=>decide (e.born>=c))= #[]:=by rw[Array.filter_eq_empty_iff];intro a ha;simp only[List.filter_toArray,List.mem_toArray,List.mem_filter,List.mem_map]at ha;obtain⟨⟨e,he,rfl⟩,_⟩:=ha;have:=hold e he;simp;omega
 have afd:((l.map λe=>(⟨f e.1,e.2.1,e.2.2⟩:MapEntry)).toArray.filter (λe=> !seen.contains e.born)).filter (λe=>decide (e.born<c))=
  (((l.filter λe=> !seen.contains e.2.2)).map λe=>(⟨f e.1,e.2.1,e.2.2⟩:MapEntry)).toArray:=by
  apply Array.ext';simp only[List.filter_toArray,List.filter_map,List.filter_filter];simp only[Function.comp_def];congr 1;apply List.filter_congr;intro e he;have:=hold e he;simp[this]
 rw[iF,afd];generalize Ri:l.filter (λe=> !seen.contains e.2.2)=left
 have pJ:∀e∈left,e∈l/\e.2.2∉seen:=by intro e he;rw[<-Ri]at he;have:=List.mem_filter.1 he;exact⟨this.1,by simpa using this.2⟩
 cases left with
 |nil=>
  rw[if_pos (by simp[Question.forced])]
  have eY:nx (aB ρ dst (Value.tuple #[.bool false])) ds σ:=h2 λe he=>by have:=List.filter_eq_nil_iff.1 Ri e he;simpa using this
  have e0:((if((([]:List (α×Value×Nat)).map λ(e:α×Value×Nat)=>(⟨f e.1,e.2.1,e.2.2⟩:MapEntry)).toArray.isEmpty=true)then(#[none]:Array (Option MapEntry))else#[])++
   ((([]:List (α×Value×Nat)).map λ(e:α×Value×Nat)=>(⟨f e.1,e.2.1,e.2.2⟩:MapEntry)).toArray++ #[]).map some)[0]? =some none:=al
  rw[e0];exact eY
 |cons e0 left=>
  have adU:(if((e0::left).map λ(e:α×Value×Nat)=>(⟨f e.1,e.2.1,e.2.2⟩:MapEntry)).toArray.isEmpty=true then(#[none]:Array (Option MapEntry))else#[])++
   (((e0::left).map λ(e:α×Value×Nat)=>(⟨f e.1,e.2.1,e.2.2⟩:MapEntry)).toArray++ #[]).map some=((e0::left).map λ(e:α×Value×Nat)=>some (⟨f e.1,e.2.1,e.2.2⟩:MapEntry)).toArray:=by
   simp
  rw[adU]
  have hgo:∀i,i<(e0::left).length->wpS P (match(((e0::left).map λ(e:α×Value×Nat)=>some (⟨f e.1,e.2.1,e.2.2⟩:MapEntry)).toArray)[i]? with
   |some (some e)=>do
    setObj it (.mapIter (some b) c (seen.push e.born) c)
    pure (Value.tuple #[.bool true,e.key,e.val])
   |some none=>pure (Value.tuple #[.bool false])
   |none=>stuck "Next: no such candidate")
   (λa σ=>wpS P (pure (Next.value a))
    (pd (λv ae=>nx (aB ρ dst v) ds ae) (λd ae=>nx (aB ρ dst undef) (d::ds) ae) λf args ae=>
     ay E f args ae (xI (λv ae=>nx (aB ρ dst v) ds ae) pn))
    (rP λv ae=>pn [{v:=v,recovered:=false}] ae) σ)
   (rP λv ae=>pn [{v:=v,recovered:=false}] ae) σ:=by
   intro i bj
   have hc:(((e0::left).map λ(e:α×Value×Nat)=>some (⟨f e.1,e.2.1,e.2.2⟩:MapEntry)).toArray)[i]? =some (some ⟨f ((e0::left)[i]).1,((e0::left)[i]).2.1,((e0::left)[i]).2.2⟩):=by rw[List.getElem?_toArray,List.getElem?_map,List.getElem?_eq_getElem bj];rfl
   rw[hc];simp only[aH,ta];have hm:=pJ _ (List.getElem_mem bj);exact⟨_,hi,rfl,h1 _ hm.1 hm.2⟩
  split
  ·exact hgo 0 al
  ·intro tt;refine hgo _ ?_;simp only[Question.cut,List.size_toArray,List.length_map];exact Nat.mod_lt _ al
end
end Go.Qw
