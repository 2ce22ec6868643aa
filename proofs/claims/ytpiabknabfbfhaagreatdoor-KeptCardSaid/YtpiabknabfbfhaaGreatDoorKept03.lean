/- 3 -/
import Derived.KernelRfl
import Derived.Test.YtpiabknabfbfhaaGreatDoorProg
import Derived.Conc.Beside
import Derived.Laws.BitsLemmas
import Derived.Test.YtpiabknabfbfhaaGreatDoorKept02
set_option linter.all false
set_option maxRecDepth 100000
set_option maxHeartbeats 8000000
namespace Go.Qw
open Go Go.Proofs.Tryz
section
open Go.Conc
def wL(k:List Value->Prop):Option (List Value)->Prop
 |some r=>k r
 |none=>False
@[congr] theorem atx{k:List Value->Prop}{a a':Option (List Value)}(h:tick a=a'):wL k a=wL k a':=by subst h;rfl
def ajP{k:List Value->Prop}{r:List Value}:wL k (some r)=k r:=bp
variable {P:Program}{E:Env P}{I:av}{ds:List Deferred}{U:Hp}{dst:Option Tmp}{ty:TypeId}{pos:String}{af:Array Edge}{g:Option (Nat×Bool)}{nx:av->List Deferred->Hp->Prop}{pn:List PanicEntry->Hp->Prop}{t:TypeId}{parts:List (Nat×Operand)}{z:Value}{pl:List (Nat×Nat)}
def amY(hz:dw P t=some z)(hp:jF P t=some pl):
 aT E ⟨dst,.build t parts.toArray,ty,pos,af,g⟩ I ds U nx pn=wL (λr=>nx (aC I dst (.agg r.toArray)) ds U) (qK pl z.cells.toList (parts.map λp=>(p.1,ak I p.2))):=by
 simp only[aT,hz,hp,wL];rfl
variable {e:TypeId}
def amZ{n:Nat}{zs:List Value}(hb:kQ P t n=some (e,pl,zs)):
 aT E ⟨dst,.buildSlice t n parts.toArray,ty,pos,af,g⟩ I ds U nx pn=wL (λr=>tD U λb=>nx (aC I dst (.slice (some ⟨b,0,none⟩) n n)) ds (U.set b (.cells r.toArray e))) (qK pl zs (parts.map λp=>(p.1,ak I p.2))):=by
 simp only[aT,hb,wL];rfl
variable {x:Operand}{a:TypeId}
def anm:aT E ⟨dst,.typeAssert x t a true,ty,pos,af,g⟩ I ds U nx pn=
 lN (wpOp E ⟨dst,.typeAssert x t a true,ty,pos,af,g⟩ I ds U nx pn) (λv=>nx (aC I dst v) ds U) (lP P a (ak I x)):=by
 simp only[aT,lN]
 cases lP P a (ak I x)<;>rfl
variable {v:Value}
def aqb(h:iJ P a=true):lP P a (.iface a v)=some (.tuple #[v,.bool true]):=by
 unfold iJ at h;simp only[lP]
 cases hu:P.underlying a with
 |none=>rw[hu]at h;cases h
 |some d=>rw[hu]at h;cases d<;>first|(simp at h;done)|simp
variable {u:TypeId}
def ap9(h:iJ P a=true)(hz:dw P a=some z)(aE:(u==a)=false):lP P a (.iface u v)=some (.tuple #[z,.bool false]):=by
 unfold iJ at h;have aE:¬u=a:=aY aE;simp only[lP]
 cases hu:P.underlying a with
 |none=>rw[hu]at h;cases h
 |some d=>rw[hu]at h;cases d<;>first|(simp at h;done)|simp[aE,hz]
def ap7(h:iJ P a=true)(hz:dw P a=some z):lP P a .nilIface=some (.tuple #[z,.bool false]):=by
 unfold iJ at h;simp only[lP]
 cases hu:P.underlying a with
 |none=>rw[hu]at h;cases h
 |some d=>rw[hu]at h;cases d<;>first|(simp at h;done)|simp[hz]
def EP(k:Value->Prop):Value->Prop
 | .iface t v=>k (.iface t v)
 |_=>False
variable {k:Value->Prop}{v':Value}
@[congr] theorem atO(h:tick v=v'):EP k v=EP k v':=by subst h;rfl
def amB:EP k (.iface t v)=k (.iface t v):=bp
def anf:aT E ⟨dst,.panic x,ty,pos,af,g⟩ I ds U nx pn=EP (λv=>pn [{v:=v,recovered:=false}] U) (ak I x):=by
 simp only[aT];unfold EP
 cases ak I x<;>simp
def B4(p:Prop)(k:ByteArray->Prop):Value->Prop
 | .string s=>k s
 |_=>p
variable {p:Prop}{k:ByteArray->Prop}
@[congr] theorem at2(h:tick v=v'):B4 p k v=B4 p k v':=by subst h;rfl
def aos{s:ByteArray}:B4 p k (.string s)=k s:=bp
def dF(l:List UInt8):List Value:=l.map λb=>.int .u8 b.toNat
def Pd(l:List UInt8):vE (B l)=(dF l).toArray:=by simp[vE,B,dF]
def AW(U:Hp)(e:TypeId)(s:ByteArray)(k:Nat->Nat->Hp->Prop):Prop:=∀b pad z,U.f b=none->k b pad (U.set b (.cells (vE s++Array.replicate pad (.int .u8 0)) e z))
variable {jC:Nat}
@[congr] theorem asF{s:ByteArray}{k:Nat->Nat->Hp->Prop}(_:tick 0=jC):AW U e s k=AW U e s k:=rfl
variable {d:TypeId}
def ank{src:TypeId}(he:lR P src d=some e):aT E ⟨dst,.convert src d x,ty,pos,af,g⟩ I ds U nx pn=
 B4 (aT E ⟨dst,.convert src d x,ty,pos,af,g⟩ I ds U nx pn) (λs=>AW U e s λb pad ae=>nx (aC I dst (.slice (some ⟨b,0,none⟩) s.size (s.size+pad))) ds ae) (ak I x):=by
 unfold B4;split
 ·rename_i s hx;simp only[aT,hx]
  have:mA P src d (.string s)=none:=by
   unfold lR at he;split at he
   ·rename_i e' hs hd;simp[mA,hs,hd]
   ·cases he
  rw[this,he];rfl
 ·rfl
def aai{k:IntKind}{n:Int}:(Value.int k n).cells= #[.int k n]:=bp
def aaf{b:Bool}:(Value.bool b).cells= #[.bool b]:=bp
def aao{b:ByteArray}:(Value.string b).cells= #[.string b]:=bp
def aam{b:Option Addr}:(Value.pointer b).cells= #[.pointer b]:=bp
variable {n:Nat}
def aan{b:Option Addr}{c:Nat}:(Value.slice b n c).cells= #[.slice b n c]:=bp
def aaj{b:Option Nat}:(Value.map b).cells= #[.map b]:=bp
def aah:(Value.iface t v).cells= #[.iface t v]:=bp
def aal:Value.nilIface.cells= #[.nilIface]:=bp
def aag{f:Fn}{x y:Array Value}:(Value.func f x y).cells= #[.func f x y]:=bp
def aak:Value.nilFunc.cells= #[.nilFunc]:=bp
def Je{c:Array Value}:(Value.agg c).cells=c:=bp
def Qi(l:List Value)(i j:Nat):l.toArray.extract i j=((l.drop i).take (j-i)).toArray:=by simp[List.extract_eq_take_drop]
variable {off:Nat}
def amM{vs c:List Value}{k:Obj->Prop}:yp P t off (.agg vs.toArray) k (.cells c.toArray e (0,0))=
 js (off+vs.length<=c.length/\cC P t=vs.length/\vs.all dn=true) (k (.cells (wW c off vs).toArray e (0,0))):=by
 have hs:dn (.agg vs.toArray)=false:=rfl
 have e1:c.toArray.extract 0 off++(Value.agg vs.toArray).cells++c.toArray.extract (off+(Value.agg vs.toArray).cells.size) c.toArray.size=(wW c off vs).toArray:=by simp only[Je,wW,Qi,List.drop_zero,Nat.sub_zero,List.append_toArray,List.size_toArray];congr 2;rw[List.take_of_length_le];simp
 simp only[yp,hs,Bool.false_eq_true,if_false,e1,js];have e3:vs.toArray.all dn=vs.all dn:=al;simp only[Je,e3];simp only[List.size_toArray,true_and,and_assoc]
def adR(tC:Nat):∀r c,c<=tC->Builtin.growBy tC r c<=tC+(tC+768)/4:=by
 intro r
 induction r with
 |zero=>intro c h;simp[Builtin.growBy];omega
 |succ r ih=>
  intro c h;unfold Builtin.growBy;by_cases hc:c>=tC
  ·rw[if_pos hc];omega
  ·rw[if_neg hc];by_cases h2:c+(c+768)/4<=tC
   ·exact ih _ h2
   ·cases r with
    |zero=>simp only[Builtin.growBy];omega
    |succ r=>unfold Builtin.growBy;rw[if_pos aa];omega
def nextslicecap_le{tC old:Nat}(h:old<tC):Builtin.nextslicecap tC old<=2*tC+192:=by
 unfold Builtin.nextslicecap;split
 ·omega
 ·split
  ·omega
  ·have:=adR tC 4 old aa;omega
def jd(U:Hp)(z n:Nat):Value->Option (Array Value)
 | .slice (some a) _ _=>cellsOf U a (n*z)
 | .slice none _ _=>some #[]
 | .string s=>some (vE (s.extract 0 n))
 |_=>none
def tB:Value->Option Nat
 | .slice _ n _=>some n
 | .string s=>some s.size
 |_=>none
def aae{a:Addr}{r:Array Value}(h:cellsOf U a n=some r):∃c e z,U.f a.block=some (.cells c e z)/\a.spot=none/\a.off+n<=c.size/\r=c.extract a.off (a.off+n):=by
 unfold cellsOf at h;split at h
 ·rename_i c e z hb;split at h
  ·rename_i hc;exact⟨c,e,z,hb,hc.1,hc.2,(Option.some.inj h).symm⟩
  ·cases h
 ·cases h
def CS{z:Nat}{r:Array Value}{Q:Array Value->Hp->Prop}{H:Halt->Hp->Prop}(h:jd U z n v=some r)(k:Q r U):wpS P (Builtin.firstCells z n v) Q H U:=by
 unfold jd at h;split at h
 ·rename_i a _ _;obtain⟨c,e,zz,hb,hs,hl,rfl⟩:=aae h;simp only[Builtin.firstCells,loadCells];refine Iu hb hs _ 0 #[] Q aa ?_;simpa using k
 ·simp only[Builtin.firstCells,bt];cases h;exact k
 ·simp only[Builtin.firstCells,bt];cases h;exact k
 ·cases h
structure oO (P:Program) (t:TypeId) where
 e:TypeId
 z:Nat
 zero:Array Value
 bytes:Nat
 hu:P.underlying t=some (.slice e)
 hi:∃i zv,P.info? e=some i/\i.size=z/\i.zero=some zv/\zv.cells=zero/\i.bytes=bytes
def BO(P:Program)(t:TypeId):Bool:=match P.underlying t with|some (.int _)=>false|some _=>true|none=>false
def sM{y:Operand}(el:oO P t){base:Option Addr}{l c:Nat}{old new:Array Value}(hu:BO P u=true)(hx:ak I x=.slice base l c)(hn:tB (ak I y)=some n)(hold:jd U el.z l (.slice base l c)=some old)(iZ:jd U el.z n (ak I y)=some new)(gn:(2*(l+n)+192)*el.bytes<=2^48)(af6:l+n<=9223372036854775807)(xJ:l+n<=c->∃ae,(match base with
  |some a=>∃cs e,U.f a.block=some (.cells cs e (0,0))/\a.spot=none/\a.off+l*el.z+new.size<=cs.size/\new.all dn=true/\
   ae=U.set a.block (.cells (cs.extract 0 (a.off+l*el.z)++new++cs.extract (a.off+l*el.z+new.size) cs.size) e (0,0))
  |none=>ae=U)/\nx (aC I dst (.slice base (l+n) c)) ds ae)(fP:c<l+n->∀b cap,U.f b=none->l+n<=cap->nx (aC I dst (.slice (some ⟨b,0,none⟩) (l+n) cap)) ds (U.set b (.cells (old++new++Builtin.zeroCells el.zero (cap-(l+n))) el.e))):
 aT E ⟨dst,.call ⟨.builtin .append,#[x,y],#[t,u]⟩,ty,pos,af,g⟩ I ds U nx pn:=by
 have jK:=el.hu;obtain⟨i,zv,hi,hz,hzero,Bv,hb⟩:=el.hi;show wpOp E _ I ds U nx pn
 have afT:∀(Q:Nat->Hp->Prop) (H:Halt->Hp->Prop),Q n U->wpS P (Builtin.lenOf (ak I y)) Q H U:=by
  intro Q H q
  cases hv:ak I y<;>rw[hv]at hn<;>first|(simp only[tB,Option.some.injEq]at hn;subst hn;exact q)|cases hn
 have hzs:∃d,P.underlying u=some d/\∀k,d≠.int k:=by
  unfold BO at hu;split at hu
  ·cases hu
  ·rename_i d hd aE;exact⟨d,aE,λk hk=>hd k hk⟩
  ·cases hu
 obtain⟨d,hd,Gz⟩:=hzs;unfold wpOp;simp only[execOp,resolve,aG,bt,invoke];show wpS P (do pure (Next.value (<-Builtin.append_ #[t,u] ty (#[x,y].map (ak I)))):Sem Next) _ _ _;rw[lU];have e1: #[x,y].map (ak I)= #[.slice base l c,ak I y]:=by simp[hx]
 rw[e1];simp only[Builtin.append_,List.getElem?_toArray,List.getElem?_cons_zero,List.getElem?_cons_succ,aG,eg,jK,sizeOf,gu,hi,bt,hd];simp only[Bool.false_eq_true,if_false,Bool.not_false,if_true,aG];refine afT _ _ ?_;by_cases hc:l+n<=c
 ·rw[if_pos hc];simp only[aG,hz];refine CS iZ ?_;obtain⟨ae,kI,hk⟩:=xJ hc
  cases base with
  |none=>simp only at kI;subst kI;exact hk
  |some a=>
   obtain⟨cs,e',cH,cT,hle,lY,rfl⟩:=kI;simp only[aG];have hsp:(a.add (l*el.z))=⟨a.block,a.off+l*el.z,none⟩:=Addr.FK cT _;rw[hsp];refine Fj (e:=e') (a:=⟨a.block,a.off+l*el.z,none⟩) rfl new.toList 0 cs U _ cH (aY hle) (aY lY) ?_;show nx (aC I dst (Value.slice (some a) (l+n) c)) ds _;simpa using hk
 ·rw[if_neg hc];simp only[aG,gu,hi,hz,hb]
  rw[if_neg (by intro⟨h1,_⟩;have:IntKind.i64.max=9223372036854775807:=ai
                omega)]
  have GU:=nextslicecap_le (show c<l+n by omega);simp only[aG,gu,hi,hb];rw[if_neg (by have:=Nat.mul_le_mul_right el.bytes GU;omega)];simp only[aG,Is];rw[if_neg (by simp[Question.forced])];intro tt;have Bb:l+n<=(Question.appendCap (l+n) c el.e).cut tt:=by simp only[Question.cut];omega
  simp only[gu,hi,askRoom]
  have fin:wpS P (do
   let old<-Builtin.firstCells el.z l (Value.slice base l c)
   let new<-Builtin.firstCells el.z n (ak I y)
   let r<-zeroValue el.e
   let q<-newRow el.e (old++new++Builtin.zeroCells r.cells ((Question.appendCap (l+n) c el.e).cut tt-(l+n)))
   pure (Value.slice (some q) (l+n) ((Question.appendCap (l+n) c el.e).cut tt)))
   (λv U=>pI (λv ae=>nx (aC I dst v) ds ae) (λd ae=>nx (aC I dst undef) (d::ds) ae)
    (λf args ae=>aw E f args ae (yk (λv ae=>nx (aC I dst v) ds ae) pn)) (Next.value v) U)
   (sG λv ae=>pn [{v:=v,recovered:=false}] ae) U:=by
   simp only[aG];refine CS hold (CS iZ ?_);simp only[zeroValue,aG,gu,hi,hzero,bt,newRow,yA,Bv];intro b cD;exact fP aa b _ cD Bb
  simp only[aG]at fin;split
  ·simp only[Nz];exact⟨rfl,fin⟩
  ·simp only[bt];exact fin
variable {α:Type}
def aU(f:α->Value)(l:List (α×Value×Nat))(c:Nat):Obj:=.map (l.map λe=>⟨f e.1,e.2.1,e.2.2⟩).toArray c
structure mU (P:Program) (t:TypeId) {α:Type} [DecidableEq α] (f:α->Value) where
 key:TypeId
 elem:TypeId
 kind:TypeDesc
 hu:P.underlying t=some (.map key elem)
 hk:P.underlying key=some kind
 hs:(∃k,kind=.int k)\/kind=.string
 same:∀a b:α,Instr.sameNow kind (f a) (f b)=some (decide (a=b))
 refl:∀a:α,Instr.sameBits 10000 (f a) (f a)=true
def du [DecidableEq α](l:List (α×Value×Nat))(k:α):Option (α×Value×Nat):=l.find? λe=>decide (e.1=k)
def jB [DecidableEq α](l:List (α×Value×Nat))(k:α)(v:Value)(c:Nat):List (α×Value×Nat):=
 if(du l k).isSome then l.map λe=>if e.1=k then(k,v,e.2.2)else e else l++[(k,v,c)]
def jN [DecidableEq α](l:List (α×Value×Nat))(k:α)(c:Nat):Nat:=if(du l k).isSome then c else c+1
def sr [DecidableEq α](l:List (α×Value×Nat))(k:α):List (α×Value×Nat):=l.filter λe=>decide (e.1≠k)
def jT(l:List (α×Value×Nat)):Prop:=(l.map (·.1)).Nodup
section
variable {P:Program}{E:Env P}{I:av}{ds:List Deferred}{U:Hp}{dst:Option Tmp}{ty:TypeId}{pos:String}{af:Array Edge}{g:Option (Nat×Bool)}{nx:av->List Deferred->Hp->Prop}{pn:List PanicEntry->Hp->Prop}
variable {α:Type}[DecidableEq α]{f:α->Value}{t:TypeId}{l:List (α×Value×Nat)}{c:Nat}{k:α}
def acy (ko:mU P t f)(k:α):∀(l:List (α×Value×Nat)) (i:Nat),Instr.findNow ko.kind (f k) (l.map λe=>⟨f e.1,e.2.1,e.2.2⟩) i=
 some ((l.findIdx? λe=>decide (e.1=k)).bind λj=>(l[j]?).map λe=>(i+j,e.2.1)):=by
 intro l
 induction l with
 |nil=>intro i;rfl
 |cons e l ih=>
  intro i;simp only[List.map_cons,Instr.findNow,ko.same];by_cases h:k=e.1
  ·subst h;simp[List.findIdx?_cons]
  ·have h':¬e.1=k:=λx=>h x.symm;simp only[h,decide_false,List.findIdx?_cons,h',Bool.false_eq_true,if_false];rw[ih];congr 1
   cases hx:(List.findIdx? (λe=>decide (e.1=k)) l)with
   |none=>rfl
   |some j=>
    simp only[Option.map_some,Option.bind_some,List.getElem?_cons_succ];congr 1;funext e;congr 1;omega
def JD (ko:mU P t f){Q:Option (Nat×Value)->Hp->Prop}{H:Halt->Hp->Prop}
 (h:Q ((l.findIdx? λe=>decide (e.1=k)).bind λj=>(l[j]?).map λe=>(j,e.2.1)) U):
 wpS P (Instr.findKey ko.key (f k) (l.map λe=>⟨f e.1,e.2.1,e.2.2⟩)) Q H U:=by
 simp only[Instr.findKey,aG,eg,ko.hk,acy ko,bt];simpa using h
def Jg (ko:mU P t f){b:Bool}{v:Value}{n:Nat}{Q:Unit->Hp->Prop}{H:Halt->Hp->Prop}(h:Q () U):wpS P (Instr.checkKey b (n+1) ko.key v) Q H U:=by unfold Instr.checkKey;simp only[aG,eg,ko.hk];rcases ko.hs with⟨kk,hk⟩|hk<;>rw[hk]<;>exact h
def acx (l:List (α×Value×Nat))(k:α):((l.findIdx? λe=>decide (e.1=k)).bind λj=>(l[j]?).map λe=>(j,e.2.1)).map (·.2)=(du l k).map (·.2.1):=by
 unfold du
 induction l with
 |nil=>rfl
 |cons e l ih=>
  by_cases h:e.1=k
  ·simp[h,List.findIdx?_cons]
  ·simp only[List.findIdx?_cons,h,decide_false,Bool.false_eq_true,if_false,List.find?_cons];rw[<-ih]
   cases hx:(List.findIdx? (λe=>decide (e.1=k)) l)with
   |none=>rfl
   |some j=>
    simp only[Option.map_some,Option.bind_some,List.getElem?_cons_succ]
    cases l[j]? <;>rfl
def j9 {x i:Operand}{ok:Bool}(ko:mU P t f){z:Value}{b:Nat}(hz:dw P ko.elem=some z)(hx:ak I x=.map (some b))(hb:U.f b=some (aU f l c))(hi:ak I i=f k)
 (h:nx (aC I dst (if ok then .tuple #[((du l k).map (·.2.1)).getD z,.bool (du l k).isSome]else((du l k).map (·.2.1)).getD z)) ds U):
 aT E ⟨dst,.lookup t x i ok,ty,pos,af,g⟩ I ds U nx pn:=by
 show wpOp E _ I ds U nx pn;unfold wpOp;simp only[execOp,Instr.lookup,aG,eg,ko.hu,hx,hi,oL,bt];refine⟨_,hb,rfl,?_⟩;simp only[aU,aG,bt];refine Jg ko ?_;refine JD ko ?_;have hm:=acx l k;generalize((l.findIdx? λe=>decide (e.1=k)).bind λj=>(l[j]?).map λe=>(j,e.2.1))=r at hm|-
 cases r with
 |none=>
  simp only[Option.map_none]at hm
  have hn:du l k=none:=by
   cases rW:du l k with
   |none=>rfl
   |some e=>rw[rW]at hm;cases hm
  rw[hn]at h;simp only[zeroValue,aG,gu];unfold dw at hz
  cases vW:P.info? ko.elem with
  |none=>rw[vW]at hz;cases hz
  |some ie=>
   rw[vW]at hz;simp only at hz;simp only[hz,bt];exact h
 |some p=>
  obtain⟨j,v⟩:=p;simp only[Option.map_some]at hm
  cases rW:du l k with
  |none=>rw[rW]at hm;cases hm
  |some e=>
   rw[rW]at hm h;simp only[Option.map_some,Option.some.injEq]at hm;subst hm;exact h
def JC (l:List (α×Value×Nat))(k:α):(l.findIdx? λe=>decide (e.1=k))=none↔du l k=none:=by unfold du;simp[List.findIdx?_eq_none_iff,List.find?_eq_none]
def ake (l:List (α×Value×Nat))(k:α)(v:Value)(hu:jT l){j:Nat}(hj:(l.findIdx? λe=>decide (e.1=k))=some j):
 l.modify j (λe=>(k,v,e.2.2))=l.map λe=>if e.1=k then(k,v,e.2.2)else e:=by
 induction l generalizing j with
 |nil=>cases hj
 |cons e l ih=>
  simp only[jT,List.map_cons,List.nodup_cons]at hu;by_cases h:e.1=k
  ·have:j=0:=by simp[List.findIdx?_cons,h]at hj;exact hj.symm
   subst this;simp only[List.modify_zero_cons,List.map_cons,h,if_true];congr 1;rw[<-List.map_id l];rw[List.map_map];apply List.map_congr_left;intro a ha
   have:a.1≠k:=by intro e2;apply hu.1;rw[h,<-e2];exact List.mem_map_of_mem ha
   simp[this]
  ·simp only[List.findIdx?_cons,h,decide_false,Bool.false_eq_true,if_false]at hj;obtain⟨i,hi,rfl⟩:=Option.map_eq_some_iff.1 hj;simp only[List.modify_succ_cons,List.map_cons,h,if_false];rw[ih hu.2 hi]
def Uq (ko:mU P t f){b:Nat}{v:Value}(hu:jT l)(hb:U.f b=some (aU f l c)){Q:Unit->Hp->Prop}{H:Halt->Hp->Prop}
 (h:Q () (U.set b (aU f (jB l k v c) (jN l k c)))):wpS P (Instr.mapUpdate t (.map (some b)) (f k) v) Q H U:=by
 simp only[Instr.mapUpdate,aG,eg,ko.hu,oL];refine⟨_,hb,rfl,?_⟩;simp only[aU,aG];refine Jg ko (JD ko ?_)
 cases hx:(l.findIdx? λe=>decide (e.1=k))with
 |none=>
  have hm:=(JC l k).1 hx;simp only[Option.bind_none,tM];refine⟨_,hb,rfl,?_⟩;simp only[jB,jN,hm,Option.isSome_none,Bool.false_eq_true,if_false]at h;simpa[aU]using h
 |some j=>
  have hm:(du l k).isSome=true:=by
   cases hq:du l k with
   |none=>rw[(JC l k).2 hq]at hx;cases hx
   |some _=>rfl
  have hj:j<l.length:=(List.findIdx?_eq_some_iff_findIdx_eq.1 hx).1
  have hk:(l[j]).1=k:=by have:=List.findIdx?_eq_some_iff_getElem.1 hx;obtain⟨_,h2,_⟩:=this;simpa using h2
  simp only[Option.bind_some,List.getElem?_eq_getElem hj,Option.map_some,aG,Instr.keyThatStays]
  have e1:((l.map λe=>(⟨f e.1,e.2.1,e.2.2⟩:MapEntry)).toArray[j]?.map (·.key)).getD (f k)=f k:=by simp[hj,hk]
  rw[e1];simp only[ko.refl,if_true,bt,tM];refine⟨_,hb,rfl,?_⟩;simp only[jB,jN,hm,if_true]at h
  have e2:((l.map λe=>(⟨f e.1,e.2.1,e.2.2⟩:MapEntry)).toArray.modify j λe=>{e with key:=f k,val:=v})=
   ((l.map λe=>if e.1=k then(k,v,e.2.2)else e).map λe=>(⟨f e.1,e.2.1,e.2.2⟩:MapEntry)).toArray:=by
   rw[<-ake l k v hu hx];apply Array.ext';simp only[Array.toList_modify];apply List.ext_getElem?;intro i;simp only[List.getElem?_modify,List.getElem?_map];by_cases Bm:j=i
   ·subst Bm;cases l[j]? <;>simp
   ·cases l[i]? <;>simp[Bm]
  rw[e2];exact h
def BH {m i v:Operand}(ko:mU P t f){b:Nat}(hu:jT l)(hm:ak I m=.map (some b))(hb:U.f b=some (aU f l c))(hi:ak I i=f k)
 (h:nx (aC I dst undef) ds (U.set b (aU f (jB l k (ak I v) c) (jN l k c)))):aT E ⟨dst,.mapUpdate t m i v,ty,pos,af,g⟩ I ds U nx pn:=by
 show wpOp E _ I ds U nx pn;unfold wpOp;simp only[execOp,VU,hm,hi];exact Uq ko hu hb h
def ahv {m i v:Operand}(ko:mU P t f){b:Nat}(hu:jT l)(hm:ak I m=.map (some b))(hb:U.f b=some (aU f l c))(hi:ak I i=f k)
 (h:nx (aC I dst undef) ds (U.set b (aU f (jB l k (ak I v) c) (jN l k c)))):aT E ⟨dst,.insert t m i v,ty,pos,af,g⟩ I ds U nx pn:=by
 show wpOp E _ I ds U nx pn;unfold wpOp;simp only[execOp,VU,hm,hi];exact Uq ko hu hb h
def abY (l:List (α×Value×Nat))(k:α)(hu:jT l){j:Nat}(hj:(l.findIdx? λe=>decide (e.1=k))=some j):l.eraseIdx j=sr l k:=by
 unfold sr
 induction l generalizing j with
 |nil=>cases hj
 |cons e l ih=>
  simp only[jT,List.map_cons,List.nodup_cons]at hu;by_cases h:e.1=k
  ·have:j=0:=by simp[List.findIdx?_cons,h]at hj;exact hj.symm
   subst this;simp only[List.eraseIdx_cons_zero,List.filter_cons,h,ne_eq,not_true_eq_false,decide_false,Bool.false_eq_true,if_false]
   symm
   rw[List.filter_eq_self];intro a ha
   have:a.1≠k:=by intro e2;apply hu.1;rw[h,<-e2];exact List.mem_map_of_mem ha
   simp[this]
  ·simp only[List.findIdx?_cons,h,decide_false,Bool.false_eq_true,if_false]at hj;obtain⟨i,hi,rfl⟩:=Option.map_eq_some_iff.1 hj;simp only[List.eraseIdx_cons_succ,List.filter_cons,h,ne_eq,not_false_eq_true,decide_true,if_true];rw[ih hu.2 hi]
def abw (l:List (α×Value×Nat))(k:α)(h:du l k=none):sr l k=l:=by unfold sr du at*;rw[List.filter_eq_self];intro a ha;have:=List.find?_eq_none.1 h a ha;simpa using this
def CK {m i:Operand}{u:TypeId}(ko:mU P t f){b:Nat}(hu:jT l)(hm:ak I m=.map (some b))(hb:U.f b=some (aU f l c))(hi:ak I i=f k)
 (h:nx (aC I dst (.tuple #[])) ds (U.set b (aU f (sr l k) c))):aT E ⟨dst,.call ⟨.builtin .delete,#[m,i],#[t,u]⟩,ty,pos,af,g⟩ I ds U nx pn:=by
 show wpOp E _ I ds U nx pn;unfold wpOp;simp only[execOp,resolve,aG,bt,invoke];show wpS P (do pure (Next.value (<-Builtin.delete_ #[t,u] ty (#[m,i].map (ak I)))):Sem Next) _ _ _;rw[lU];have e1: #[m,i].map (ak I)= #[.map (some b),f k]:=by simp[hm,hi]
 rw[e1];simp only[Builtin.delete_,List.getElem?_toArray,List.getElem?_cons_zero,List.getElem?_cons_succ,aG,eg,ko.hu,oL];refine⟨_,hb,rfl,?_⟩;simp only[aU,aG];refine Jg ko (JD ko ?_)
 cases hx:(l.findIdx? λe=>decide (e.1=k))with
 |none=>
  simp only[Option.bind_none,aG,tM];refine⟨_,hb,rfl,?_⟩;rw[abw l k ((JC l k).1 hx)]at h;exact h
 |some j=>
  have hj:j<l.length:=(List.findIdx?_eq_some_iff_findIdx_eq.1 hx).1;simp only[Option.bind_some,List.getElem?_eq_getElem hj,Option.map_some,aG,tM];refine⟨_,hb,rfl,?_⟩
  have e2:((l.map λe=>(⟨f e.1,e.2.1,e.2.2⟩:MapEntry)).toArray.eraseIdxIfInBounds j)=((sr l k).map λe=>(⟨f e.1,e.2.1,e.2.2⟩:MapEntry)).toArray:=by rw[<-abY l k hu hx];apply Array.ext';simp[List.eraseIdx_eq_take_drop_succ]
  rw[e2];exact h
def aaJ {m:Operand}{b:Nat}{d:TypeDesc}(ht:P.underlying t=some d)(hm:ak I m=.map (some b))(hb:U.f b=some (aU f l c))
 (h:nx (aC I dst (.tuple #[])) ds (U.set b (aU f [] c))):aT E ⟨dst,.call ⟨.builtin .clear,#[m],#[t]⟩,ty,pos,af,g⟩ I ds U nx pn:=by
 show wpOp E _ I ds U nx pn;unfold wpOp;simp only[execOp,resolve,aG,bt,invoke];show wpS P (do pure (Next.value (<-Builtin.clear_ #[t] ty (#[m].map (ak I)))):Sem Next) _ _ _;rw[lU];have e1: #[m].map (ak I)= #[.map (some b)]:=by simp[hm]
 rw[e1];simp only[Builtin.clear_,List.getElem?_toArray,List.getElem?_cons_zero,aG,eg,ht]
 cases d<;>(simp only[oL];refine⟨_,hb,rfl,?_⟩;simp only[aU,aG,tM];exact⟨_,hb,rfl,h⟩)
def Hu {m:Operand}{b:Nat}(ko:mU P t f)(hm:ak I m=.map (some b))(hb:U.f b=some (aU f l c))
 (h:nx (aC I dst (.int .i64 l.length)) ds U):wpOp E ⟨dst,.call ⟨.builtin .len,#[m],#[t]⟩,ty,pos,af,g⟩ I ds U nx pn:=by
 unfold wpOp;simp only[execOp,resolve,aG,bt,invoke];show wpS P (do pure (Next.value (<-Builtin.len_ #[t] ty (#[m].map (ak I)))):Sem Next) _ _ _;rw[lU];have e1: #[m].map (ak I)= #[.map (some b)]:=by simp[hm]
 rw[e1];simp only[Builtin.len_,List.getElem?_toArray,List.getElem?_cons_zero,aG,eg,ko.hu,oL];refine⟨_,hb,rfl,?_⟩;simp only[aU,bt];show nx (aC I dst (goInt _)) ds U;simpa[goInt]using h
def UH {m:Operand}{b:Nat}(ko:mU P t f)(hm:ak I m=.map (some b))(hb:U.f b=some (aU f l c))
 (h:∀it,U.f it=none->nx (aC I dst (pV it)) ds (U.set it (.mapIter (some b) c #[] c))):aT E ⟨dst,.range t m,ty,pos,af,g⟩ I ds U nx pn:=by
 show wpOp E _ I ds U nx pn;unfold wpOp;simp only[execOp,Instr.range,aG,eg,ko.hu,hm,oL];refine⟨_,hb,rfl,?_⟩;simp only[aU,bt,aG,yA];exact h
def TN {x:Operand}{it b:Nat}{seen:Array Nat}(hx:ak I x=pV it)(hi:U.f it=some (.mapIter (some b) c seen c))(hb:U.f b=some (aU f l c))(hold:∀e∈l,e.2.2<c)
 (h1:∀e∈l,e.2.2∉seen->nx (aC I dst (.tuple #[.bool true,f e.1,e.2.1])) ds (U.set it (.mapIter (some b) c (seen.push e.2.2) c)))
 (h2:(∀e∈l,e.2.2∈seen)->nx (aC I dst (.tuple #[.bool false])) ds U):aT E ⟨dst,.next x false,ty,pos,af,g⟩ I ds U nx pn:=by
 show wpOp E _ I ds U nx pn;unfold wpOp;simp only[execOp,Instr.next,aG,hx,oL];refine⟨_,hi,rfl,?_⟩;simp only[aG,oL];refine⟨_,hb,rfl,?_⟩;simp only[aU]
 have eC:(!seen.isEmpty&& !(l.map λe=>(⟨f e.1,e.2.1,e.2.2⟩:MapEntry)).toArray.isEmpty&&(l.map λe=>(⟨f e.1,e.2.1,e.2.2⟩:MapEntry)).toArray.all (λx=>decide (x.born>=c)))=false:=by
  cases l with
  |nil=>simp
  |cons e l=>
   have:=hold e al;simp;omega
 rw[eC];simp only[Bool.false_eq_true,if_false,aG,Is]
 have iZ:((l.map λe=>(⟨f e.1,e.2.1,e.2.2⟩:MapEntry)).toArray.filter (λe=> !seen.contains e.born)).filter (λe=>decide (e.born>=c))= #[]:=by rw[Array.filter_eq_empty_iff];intro a ha;simp only[List.filter_toArray,List.mem_toArray,List.mem_filter,List.mem_map]at ha;obtain⟨⟨e,he,rfl⟩,_⟩:=ha;have:=hold e he;simp;omega
 have agi:((l.map λe=>(⟨f e.1,e.2.1,e.2.2⟩:MapEntry)).toArray.filter (λe=> !seen.contains e.born)).filter (λe=>decide (e.born<c))=
  (((l.filter λe=> !seen.contains e.2.2)).map λe=>(⟨f e.1,e.2.1,e.2.2⟩:MapEntry)).toArray:=by
  apply Array.ext';simp only[List.filter_toArray,List.filter_map,List.filter_filter];simp only[Function.comp_def];congr 1;apply List.filter_congr;intro e he;have:=hold e he;simp[this]
 rw[iZ,agi];generalize R3:l.filter (λe=> !seen.contains e.2.2)=left
 have qf:∀e∈left,e∈l/\e.2.2∉seen:=by intro e he;rw[<-R3]at he;have:=List.mem_filter.1 he;exact⟨this.1,by simpa using this.2⟩
 cases left with
 |nil=>
  rw[if_pos (by simp[Question.forced])]
  have fI:nx (aC I dst (Value.tuple #[.bool false])) ds U:=h2 λe he=>by have:=List.filter_eq_nil_iff.1 R3 e he;simpa using this
  have e0:((if((([]:List (α×Value×Nat)).map λ(e:α×Value×Nat)=>(⟨f e.1,e.2.1,e.2.2⟩:MapEntry)).toArray.isEmpty=true)then(#[none]:Array (Option MapEntry))else#[])++
   ((([]:List (α×Value×Nat)).map λ(e:α×Value×Nat)=>(⟨f e.1,e.2.1,e.2.2⟩:MapEntry)).toArray++ #[]).map some)[0]? =some none:=al
  rw[e0];exact fI
 |cons e0 left=>
  have aeW:(if((e0::left).map λ(e:α×Value×Nat)=>(⟨f e.1,e.2.1,e.2.2⟩:MapEntry)).toArray.isEmpty=true then(#[none]:Array (Option MapEntry))else#[])++
   (((e0::left).map λ(e:α×Value×Nat)=>(⟨f e.1,e.2.1,e.2.2⟩:MapEntry)).toArray++ #[]).map some=((e0::left).map λ(e:α×Value×Nat)=>some (⟨f e.1,e.2.1,e.2.2⟩:MapEntry)).toArray:=by
   simp
  rw[aeW]
  have hgo:∀i,i<(e0::left).length->wpS P (match(((e0::left).map λ(e:α×Value×Nat)=>some (⟨f e.1,e.2.1,e.2.2⟩:MapEntry)).toArray)[i]? with
   |some (some e)=>do
    setObj it (.mapIter (some b) c (seen.push e.born) c)
    pure (Value.tuple #[.bool true,e.key,e.val])
   |some none=>pure (Value.tuple #[.bool false])
   |none=>stuck "Next: no such candidate")
   (λa U=>wpS P (pure (Next.value a))
    (pI (λv ae=>nx (aC I dst v) ds ae) (λd ae=>nx (aC I dst undef) (d::ds) ae) λf args ae=>
     aw E f args ae (yk (λv ae=>nx (aC I dst v) ds ae) pn))
    (sG λv ae=>pn [{v:=v,recovered:=false}] ae) U)
   (sG λv ae=>pn [{v:=v,recovered:=false}] ae) U:=by
   intro i bd
   have hc:(((e0::left).map λ(e:α×Value×Nat)=>some (⟨f e.1,e.2.1,e.2.2⟩:MapEntry)).toArray)[i]? =some (some ⟨f ((e0::left)[i]).1,((e0::left)[i]).2.1,((e0::left)[i]).2.2⟩):=by rw[List.getElem?_toArray,List.getElem?_map,List.getElem?_eq_getElem bd];rfl
   rw[hc];simp only[aG,tM];have hm:=qf _ (List.getElem_mem bd);exact⟨_,hi,rfl,h1 _ hm.1 hm.2⟩
  split
  ·exact hgo 0 al
  ·intro tt;refine hgo _ ?_;simp only[Question.cut,List.size_toArray,List.length_map];exact Nat.mod_lt _ al
end
def qJ(p:Prop)(k:α->Prop):Option α->Prop
 |some a=>k a
 |none=>p
@[congr] theorem asd{k:α->Prop}{a a':Option α}(h:tick a=a'):qJ p k a=qJ p k a':=by subst h;rfl
def aqS{k:Value->Prop}:kN k v=k v:=bp
def vO{k:α->Prop}{a:α}:qJ p k (some a)=k a:=bp
def anH{i:Operand}:aT E ⟨dst,.indexAddr t x i,ty,pos,af,g⟩ I ds U nx pn=
 qJ (aT E ⟨dst,.indexAddr t x i,ty,pos,af,g⟩ I ds U nx pn) (λz=>uN (wpOp E ⟨dst,.indexAddr t x i,ty,pos,af,g⟩ I ds U nx pn) z (λv=>nx (aC I dst v) ds U) (ak I i) (ak I x)) (iX P t):=by
 cases h:iX P t with
 |none=>rfl
 |some z=>rw[vO];exact am5 h
variable {lo hi:Option Operand}
def anJ(hs:qw P t=false):aT E ⟨dst,.slice t x lo hi none,ty,pos,af,g⟩ I ds U nx pn=
 qJ (aT E ⟨dst,.slice t x lo hi none,ty,pos,af,g⟩ I ds U nx pn) (λz=>xf (wpOp E ⟨dst,.slice t x lo hi none,ty,pos,af,g⟩ I ds U nx pn) z (λv=>nx (aC I dst v) ds U) (lo.map (ak I)) (hi.map (ak I)) (ak I x)) (iX P t):=by
 cases h:iX P t with
 |none=>rfl
 |some z=>rw[vO];exact anh h
def anE:aT E ⟨dst,.build t parts.toArray,ty,pos,af,g⟩ I ds U nx pn=
 qJ (aT E ⟨dst,.build t parts.toArray,ty,pos,af,g⟩ I ds U nx pn) (λz=>qJ (aT E ⟨dst,.build t parts.toArray,ty,pos,af,g⟩ I ds U nx pn) (λpl=>wL (λr=>nx (aC I dst (.agg r.toArray)) ds U) (qK pl z.cells.toList (parts.map λp=>(p.1,ak I p.2)))) (jF P t)) (dw P t):=by
 cases hz:dw P t with
 |none=>rfl
 |some z=>
  rw[vO]
  cases hp:jF P t with
  |none=>rfl
  |some pl=>rw[vO];exact amY hz hp
def anF:aT E ⟨dst,.buildSlice t n parts.toArray,ty,pos,af,g⟩ I ds U nx pn=
 qJ (aT E ⟨dst,.buildSlice t n parts.toArray,ty,pos,af,g⟩ I ds U nx pn) (λq=>wL (λr=>tD U λb=>nx (aC I dst (.slice (some ⟨b,0,none⟩) n n)) ds (U.set b (.cells r.toArray q.1))) (qK q.2.1 q.2.2 (parts.map λp=>(p.1,ak I p.2)))) (kQ P t n):=by
 cases h:kQ P t n with
 |none=>rfl
 |some q=>obtain⟨e,pl,zs⟩:=q;rw[vO];exact amZ h
def anD:aT E ⟨dst,.alloc t,ty,pos,af,g⟩ I ds U nx pn=mP (λz=>tD U λb=>nx (aC I dst (pV b)) ds (U.set b (.cells z.cells t))) (dw P t):=amU
def anG{s:TypeId}:aT E ⟨dst,.convert s d x,ty,pos,af,g⟩ I ds U nx pn=
 qJ (lN (wpOp E ⟨dst,.convert s d x,ty,pos,af,g⟩ I ds U nx pn) (λv=>nx (aC I dst v) ds U) (mA P s d (ak I x)))
  (λe=>B4 (aT E ⟨dst,.convert s d x,ty,pos,af,g⟩ I ds U nx pn) (λs=>AW U e s λb pad ae=>nx (aC I dst (.slice (some ⟨b,0,none⟩) s.size (s.size+pad))) ds ae) (ak I x)) (lR P s d):=by
 cases h:lR P s d with
 |none=>exact am1 h
 |some e=>rw[vO];exact ank h
def Ge{k:α->Prop}:qJ p k none=p:=bp
def abe{s:TypeId}{j:IntKind}{a:Int}(h:(tz P s d).isSome=true):mA P s d (.int j a)=(tz P s d).map λk=>.int k (k.wrap a):=by
 obtain⟨k,hk⟩:=Option.isSome_iff_exists.1 h;rw[hk];unfold tz at hk;split at hk
 ·rename_i hs;exact abd hs hk
 ·cases hk
def aj1{β:Type}{f:α->β}{a:α}:(some a).map f=some (f a):=bp
def aqa(h:iJ P a=true)(aE:(u==a)=false):lP P a (.iface u v)=(dw P a).map λz=>.tuple #[z,.bool false]:=by
 cases hz:dw P a with
 |none=>
  unfold iJ at h;have aE:¬u=a:=aY aE;simp only[lP]
  cases hu:P.underlying a with
  |none=>rw[hu]at h;cases h
  |some d=>rw[hu]at h;cases d<;>first|(simp at h;done)|simp[aE,hz]
 |some z=>exact ap9 h hz aE
def ap8(h:iJ P a=true):lP P a .nilIface=(dw P a).map λz=>.tuple #[z,.bool false]:=by
 cases hz:dw P a with
 |none=>
  unfold iJ at h;simp only[lP]
  cases hu:P.underlying a with
  |none=>rw[hu]at h;cases h
  |some d=>rw[hu]at h;cases d<;>first|(simp at h;done)|simp[hz]
 |some z=>exact ap7 h hz
variable {k:Value->Prop}
def ajg{b:Nat}(h:dC P t=true):oD P t ⟨b,off,none⟩ U k=tE (cellsIn off (cC P t) k) (U.f b):=ajc h rfl
def aad{c:List Value}{z:Nat×Nat}:cellsIn off n k (.cells c.toArray e z)=js (off+n<=c.length) (k (.agg ((c.drop off).take n).toArray)):=by simp only[cellsIn,Qi,js,List.size_toArray];rw[show off+n-off=n by omega]
def ajA{s:List UInt8}(h:qw P t=true):oE P p k t (.string (B s))=k (.int .i64 s.length):=by rw[ajv (E7 h),xb]
def ajz{a:Option Addr}{c:Nat}(h:(iX P t).isSome=true):oE P p k t (.slice a n c)=k (.int .i64 n):=by refine aju ?_;obtain⟨z,hz⟩:=Option.isSome_iff_exists.1 h;obtain⟨e,he,_⟩:=CO hz;simp[he]
def anI:aT E ⟨dst,.call ⟨.builtin .len,#[x],#[t]⟩,ty,pos,af,g⟩ I ds U nx pn=
 oE P (wpOp E ⟨dst,.call ⟨.builtin .len,#[x],#[t]⟩,ty,pos,af,g⟩ I ds U nx pn) (λv=>nx (aC I dst v) ds U) t (ak I x):=am6 rfl
def als{op:BinOp}{a b:Addr}:fi P op t (.pointer (some a)) (.pointer (some b))=none:=by unfold fi;cases op<;>cases P.underlying t<;>first|rfl|(rename_i d;cases d<;>rfl)
def akW{op:BinOp}{y:Operand}{a b:Option Addr}:nO P op t x y (.pointer a) (.pointer b)=none:=by unfold nO;cases op<;>cases P.underlying t<;>first|rfl|(rename_i d;cases d<;>rfl)
def aab{c:List Value}{z:Nat×Nat}:od off k (.cells c.toArray e z)=mP k c[off]? :=by simp[od,Vw]
def amN{c:List Value}{k:Obj->Prop}(h:dn v=true):
 yp P t off v k (.cells c.toArray e (0,0))=js (off<c.length/\cC P t=1) (k (.cells (c.set off v).toArray e (0,0))):=by
 simp only[yp,h,if_true,js,List.size_toArray,List.setIfInBounds_toArray];simp only[true_and,and_assoc]
def aox{k:IntKind}{n:Int}:dn (.int k n)=true:=bp
def aot{b:Bool}:dn (.bool b)=true:=bp
def aoD{b:ByteArray}:dn (.string b)=true:=bp
def aoB{b:Option Addr}:dn (.pointer b)=true:=bp
def aoC{b:Option Addr}{c:Nat}:dn (.slice b n c)=true:=bp
def aoy{b:Option Nat}:dn (.map b)=true:=bp
def aou{b:Option Nat}:dn (.chan b)=true:=bp
def aow:dn (.iface t v)=true:=bp
def aoA:dn .nilIface=true:=bp
def aov{f:Fn}{x y:Array Value}:dn (.func f x y)=true:=bp
def aoz:dn .nilFunc=true:=bp
def ahe:Region.isConst (.const v)=true:=bp
def ahf{t:Tmp}:Region.isConst (.tmp t)=false:=bp
def Gf(U:Hp)(e:TypeId)(l:List UInt8)(k:Nat->Nat->Hp->Prop):Prop:=∀b pad z,U.f b=none->k b pad (U.set b (.cells (dF l++List.replicate pad (Value.int .u8 0)).toArray e z))
variable {l:List UInt8}{k:Nat->Nat->Hp->Prop}
@[congr] theorem asE(_:tick 0=jC):Gf U e l k=Gf U e l k:=rfl
def acO:AW U e (B l) k=Gf U e l k:=by
 have:∀pad:Nat,vE (B l)++Array.replicate pad (Value.int .u8 0)=(dF l++List.replicate pad (Value.int .u8 0)).toArray:=by intro pad;rw[Pd];apply Array.ext';simp
 simp only[AW,Gf,this]
def ZE{r:List Value}{i:Nat}(h:i<l.length):(dF l++r)[i]? =some (.int .u8 (pP l i)):=by rw[List.getElem?_append_left (by simpa[dF]using h)];simp only[dF,List.getElem?_map,List.getElem?_eq_getElem h,Option.map_some,pP,List.getD_eq_getElem?_getD,Option.getD_some]
def ace{b x:Nat}{o:Obj}(hb:U.f b=none)(hx:(U.f x).isSome=true):(U.set b o).f x=U.f x:=by refine Hp.aM o ?_;intro e;subst e;rw[hb]at hx;cases hx
def apt{args:List Value}{t:Nat}:nV args.toArray n t=(args[t]?).getD undef:=by simp[nV]
variable {f:FuncId}{args:Array Value}{J:Hp}
def Pj(hg:cz P f=true)(h:aw E f args U λe ae=>e=.returned v/\ae=J)(k:nx (aC I dst v) ds J):kx E f args U dst I ds nx pn:=
 FV hg (h.mono λe ae ⟨h1,h2⟩=>by subst h1;subst h2;exact k)
def dG{R:Fin->Hp->Prop}(hg:cz P f=true)(h:aw E f args U R)(k:∀v ae,R (.returned v) ae->nx (aC I dst v) ds ae)(kp:∀ch ae,R (.panicked ch) ae->pn ch ae):kx E f args U dst I ds nx pn:=
 FV hg (h.mono λe ae h=>match e,h with
  | .returned v,h=>k v ae h
  | .panicked ch,h=>kp ch ae h)
def aZ(h:aw E f args U λe ae=>e=.returned v/\ae=J)(k:nx (aC I dst v) ds J)(hg:cz P f=true:=by kernel_rfl):kx E f args U dst I ds nx pn:=Pj hg h k
def aL{R:Fin->Hp->Prop}(h:aw E f args U R)(k:∀v ae,R (.returned v) ae->nx (aC I dst v) ds ae)(hg:cz P f=true:=by kernel_rfl)(kp:∀ch ae,R (.panicked ch) ae->pn ch ae:=by rintro ch ae h;first|(obtain⟨h,_⟩:=h;cases h;done)|(obtain⟨_,h,_⟩:=h;cases h;done)|(obtain⟨_,_,h,_⟩:=h;cases h;done)|(obtain⟨_,_,_,h,_⟩:=h;cases h;done)|(obtain⟨_,_,_,_,h,_⟩:=h;cases h;done)|(obtain⟨⟨_,_,h⟩,_⟩:=h;cases h;done)|(obtain⟨_,h⟩:=h;cases h;done)|(cases h;done)|(obtain⟨_,_,h⟩:=h;cases h;done)):kx E f args U dst I ds nx pn:=dG hg h k kp
attribute [go_sem] Vw aq8 aq6 aq7 anb amV ang amX am7 anj ane am3 amW ann am9 am8 ana am2 am0 anf anm am4 ani
 anH anJ anE anF anD anG anI
attribute [go_sem] aas al1 amw amu amF akQ akP aqS aqr al4 al3 ac3 acZ ac2 ac0 aar air aiq al2 vO Ge ajP aos amB acO
 ais Zy apr apR ajF ajG afv afw ajA ajz
attribute [go_sem] bv_add Zw Zh Zo Zp Za Zi Zg Zf Zc Zb Zs Zt Zl bv_and Zx Pa Zq Zv Zu Zr Zm Y9 Zk Zj Ze Zd
 alr alq alp ak2 ak1 ak0 alk akX aln alo akY akZ als akW alm akU akV aqR aqQ abe abf aj1 aqb aqa ap8
attribute [go_sem] ZY ZW ZZ ZV ZX ZU ZS ZT apX apW apZ apY Ye Yg Yf Yb Yd
attribute [go_sem] aqP aqO ab8 ab5 ab6 ab7 amP amO alz aly apt T7 aab aad ajd ajg IX aps amN amM
 aox aot aoD aoB aoC aoy aou aow aoA aov aoz Hp.bD ace Hp.set_set
 aai aaf aao aam aan aaj aah aal aag aak Je qK wW akc akd xb
attribute [go_sem] List.getElem?_cons_zero List.getElem?_cons_succ List.length_cons List.length_nil List.set_cons_zero List.set_cons_succ List.length_set List.map_cons List.map_nil List.map_toArray Array.getElem?_toList List.getElem?_toArray List.drop_zero List.drop_succ_cons List.take_zero List.take_succ_cons List.drop_nil List.take_nil
 List.nil_append List.cons_append List.append_nil List.size_toArray List.append_toArray
 if_true if_false decide_true decide_false Option.map_none Option.map_some Option.getD_some Option.getD_none Option.isSome_some Int.toNat_zero Nat.mul_one Nat.one_mul Nat.add_zero Nat.zero_add Int.le_refl true_and and_true and_self not_true_eq_false not_false_eq_true Int.toNat_natCast List.all_cons List.all_nil Bool.and_true Bool.and_self eq_self ne_eq Bool.not_true Bool.not_false ahe ahf Bool.or_true Bool.true_or Bool.or_false Bool.false_or
def Iy(N:Nat)(I:av):Option Oper->Option Bool
 |some o=>match o.dst with
  |some d=>if d<N then Cx (I d)else none
  |none=>none
 |none=>none
variable {N:Nat}{ops:Array Oper}{j:Nat}
def arC:hU N ops I j=Iy N I (ops[j]?):=by
 unfold hU Iy
 cases ops[j]? <;>rfl
def arA{d:Tmp}{op:Op}:Iy N I (some ⟨some d,op,ty,pos,af,g⟩)=cond (decide (d<N)) (Cx (I d)) none:=by simp[Iy]
def Y1{b:Bool}:Cx (.bool b)=some b:=bp
def aaY{a b:Option Bool}:cond true a b=a:=bp
attribute [go_sem] arC arA Y1 aaY
def fK(P:Program)(op:Op)(I:av)(U:Hp)(K:Value->Prop):Prop:=∃v,cU P op I U=some v/\K v
variable {K:Value->Prop}
@[congr] theorem at0{op:Op}(_:tick 0=jC):fK P op I U K=fK P op I U K:=rfl
def oe{w:Value}:(∃v,some w=some v/\K v)=K w:=propext ⟨λ⟨v,h,k⟩=>by cases h;exact k,λk=>⟨w,rfl,k⟩⟩
def gJ:(∃v,(none:Option Value)=some v/\K v)=False:=propext ⟨λ⟨v,h,k⟩=>(by cases h),λk=>k.elim⟩
def anY:fK P (.move x) I U K=kN K (ak I x):=oe
def anN:fK P (.assign x) I U K=kN K (ak I x):=oe
def an0{c a b:Operand}:fK P (.pick c a b) I U K=tG (kN K (ak I a)) (kN K (ak I b)) (ak I c):=by
 unfold fK tG cU
 dsimp only
 generalize ak I c=y
 cases y with
 |bool t=>cases t<;>exact oe
 |_=>exact gJ
def aje{a:Addr}:(∃v,jg P t a U=some v/\K v)=oD P t a U K:=by
 apply propext;constructor
 ·rintro⟨v,h,k⟩;exact uS h k
 ·intro h;unfold oD at h;unfold jg;split at h
  ·rename_i hc;rw[if_pos hc];split at h
   ·rename_i cs kT;exact⟨_,by rw[kT];rfl,h⟩
   ·exact h.elim
  ·rename_i hc;rw[if_neg hc];split at h
   ·rename_i v hv;exact⟨v,hv,h⟩
   ·exact h.elim
def anW:fK P (.load t x) I U K=ky (dq P t) (ri (λa=>oD P t a U K) (ak I x)):=by
 unfold fK ky cU ri
 dsimp only
 simp only[<-aje];generalize ak I x=y
 cases y with
 |pointer a=>
  cases a with
  |none=>exact gJ.trans al
  |some a=>cases ht:dq P t<;>simp
 |_=>exact gJ.trans al
def anZ:fK P (.nilCheck x) I U K=yi K (ak I x):=by
 unfold fK yi cU
 dsimp only
 generalize ak I x=y
 cases y with
 |pointer a=>cases a<;>first|exact gJ|exact oe
 |func f l c=>cases f<;>first|exact gJ|exact oe
 |_=>exact gJ
def anR{s:TypeId}{f:Nat}:fK P (.fieldAddr s x f) I U K=ri (λa=>mP (λn=>kN K (.pointer (some (a.add n)))) (bL P s f)) (ak I x):=by
 unfold fK ri cU
 dsimp only
 generalize ak I x=y
 cases y with
 |pointer a=>
  cases a with
  |none=>exact gJ
  |some a=>generalize bL P s f=z;cases z<;>first|exact gJ|exact oe
 |_=>exact gJ
variable {y:Operand}
def anO{op:BinOp}:fK P (.binOp op t x y u) I U K=lN (lN (lN False K (nO P op t x y (ak I x) (ak I y))) K (fi P op t (ak I x) (ak I y))) K (cK op (ak I x) (ak I y)):=by
 unfold fK cU
 dsimp only
 generalize cK op (ak I x) (ak I y)=a;generalize fi P op t (ak I x) (ak I y)=b;generalize nO P op t x y (ak I x) (ak I y)=c
 cases a with
 |some a=>exact oe
 |none=>cases b with
  |some b=>exact oe
  |none=>cases c with
   |some c=>exact oe
   |none=>exact gJ
def an3{op:UnOp}:fK P (.unOp op t x) I U K=mP K (vr op (ak I x)):=by
 unfold fK cU
 dsimp only
 generalize vr op (ak I x)=y
 cases y<;>first|exact gJ|exact oe
def anP{s:TypeId}:fK P (.convert s d x) I U K=lN False K (mA P s d (ak I x)):=by
 unfold fK cU
 dsimp only
 generalize mA P s d (ak I x)=y
 cases y<;>first|exact gJ|exact oe
def anX:fK P (.makeInterface t x) I U K=ky (iJ P t) (kN (λv=>K (.iface t v)) (ak I x)):=by
 unfold fK cU ky iJ kN
 dsimp only
 cases P.underlying t with
 |none=>simp
 |some d=>cases d<;>simp
def anS{f:Fn}{l c:Array Operand}:fK P (.makeFunc f l c) I U K=kN K (.func f (l.map (ak I)) (c.map (ak I))):=oe
def anQ{i:Nat}:fK P (.extract x i) I U K=Ak K i (ak I x):=by
 unfold fK cU Ak
 dsimp only
 generalize ak I x=y
 cases y with
 |tuple vs=>show(∃v,vs[i]? =some v/\K v)=mP K vs[i]?;generalize vs[i]? =z;cases z<;>first|exact gJ|exact oe
 |_=>exact gJ
def anU{cA:Array TypeId}(h:cA[0]? =some t):fK P (.call ⟨.builtin .len,#[x],cA⟩) I U K=oE P False K t (ak I x):=by
 have e:(#[x].map (ak I))[0]? =some (ak I x):=al;unfold fK cU oE
 dsimp only
 simp only[h,e]
 cases xY P t (ak I x)<;>cases xZ (ak I x)<;>simp
def vN{c:Prop} [Decidable c]{w:Value}:(∃v,(if c then some w else none)=some v/\K v)=js c (K w):=by
 unfold js;by_cases h:c
 ·simp only[h,if_true,true_and];exact oe
 ·simp only[h,if_false,false_and];exact gJ
def an2(h:qw P t=true):fK P (.slice t x lo hi none) I U K=yv False K (lo.map (ak I)) (hi.map (ak I)) (ak I x):=by
 unfold fK cU;simp only[E7 h];generalize ak I x=vx;generalize lo.map (ak I)=l;generalize hi.map (ak I)=u
 cases vx with
 |string s=>
  simp only[yv]
  cases l with
  |none=>
   simp only[nT,mL]
   cases u with
   |none=>simp only[jQ,jx];exact vN
   |some u=>simp only[jQ,jx];cases u<;>first|exact vN|exact gJ
  |some l=>
   cases l with
   |int k n=>
    simp only[nT,mL]
    cases u with
    |none=>simp only[jQ,jx];exact vN
    |some u=>simp only[jQ,jx];cases u<;>first|exact vN|exact gJ
   |_=>simp only[nT,mL];exact gJ
 |_=>simp only[yv];exact gJ
def anT{i:Operand}:fK P (.indexAddr t x i) I U K=qJ False (λz=>uN False z K (ak I i) (ak I x)) (iX P t):=by
 have e0:cU P (.indexAddr t x i) I U=match tJ P t,ak I x,ak I i with
  |some e,.slice (some a) n _,.int _ k=>if 0<=k/\k<n/\(P.info? e).isSome=true then some (.pointer (some (a.add (k.toNat*cC P e))))else none
  |_,_,_=>none:=rfl
 unfold fK;rw[e0]
 cases h:iX P t with
 |none=>
  rw[Ge];unfold iX at h;split at h
  ·rename_i e he
   have hi:(P.info? e).isSome=false:=by
    cases hh:P.info? e with
    |none=>rfl
    |some i=>rw[hh]at h;cases h
   rw[he]
   cases ak I x<;>try exact gJ
   rename_i a n c
   cases a<;>try exact gJ
   cases ak I i<;>try exact gJ
   simp[hi]
  ·rename_i he;rw[he];exact gJ
 |some z=>
  obtain⟨e,he,hs,hz⟩:=CO h;subst hz;rw[vO];unfold uN;rw[he]
  cases ak I x<;>try exact gJ
  rename_i a n c
  cases a<;>try exact gJ
  cases ak I i<;>try exact gJ
  simp only[hs,and_true];exact vN
def anV:fK P (.call ⟨.builtin .len,#[x],#[t]⟩) I U K=oE P False K t (ak I x):=anU rfl
variable {Q:Post}{pn:List PanicEntry->List Deferred->Hp->Prop}{cI:List (Nat×av×Value)}{l:List Nat}
@[congr] theorem aug(_:tick 0=jC):gq E N ops Q pn l cI I ds U=gq E N ops Q pn l cI I ds U:=rfl
def dQ(E:Env P)(N:Nat)(ops:Array Oper)(Q:Post)(pn:List PanicEntry->List Deferred->Hp->Prop)(i:Nat)(rest:List Nat)(cI:List (Nat×av×Value))(I:av)(ds:List Deferred)(U:Hp):Option Oper->Prop
 |none=>False
 |some o=>pC N o.dst=true/\
  if cW o.op then
   if Region.wanted o (hU N ops I)then match cU P o.op I U with
    |some v=>gq E N ops Q pn rest ((i,I,v)::cI) (aC I o.dst v) ds U
    |none=>False
   else gq E N ops Q pn rest cI (aC I o.dst undef) ds U
  else if Region.wanted o (hU N ops I)then aT E o I ds U (λaz da ae=>pr (P:=P) ops i ae cI/\gq E N ops Q pn rest cI az da ae) (λch ae=>pn ch ds ae)
  else gq E N ops Q pn rest cI (aC I o.dst undef) ds U
variable {rest:List Nat}{i:Nat}
@[congr] theorem ar7{o o':Option Oper}(h:tick o=o'):dQ E N ops Q pn i rest cI I ds U o=dQ E N ops Q pn i rest cI I ds U o':=by subst h;rfl
def abj:gq E N ops Q pn [] cI I ds U=Q .normal I ds U:=bp
def abh:gq E N ops Q pn (i::rest) cI I ds U=dQ E N ops Q pn i rest cI I ds U (ops[i]?):=by
 simp only[gq,dQ]
 cases ops[i]? <;>rfl
def bQ(p q:Prop):Bool->Prop
 |true=>p
 |false=>q
variable {q:Prop}{b:Bool}
@[congr] theorem arU{b':Bool}(h:tick b=b'):bQ p q b=bQ p q b':=by subst h;rfl
def Ya:bQ p q true=p:=bp
def X9:bQ p q false=q:=bp
def abk{op:Op}:dQ E N ops Q pn i rest cI I ds U (some ⟨dst,op,ty,pos,af,none⟩)=
 ky (pC N dst) (bQ (fK P op I U λv=>gq E N ops Q pn rest ((i,I,v)::cI) (aC I dst v) ds U)
  (aT E ⟨dst,op,ty,pos,af,none⟩ I ds U (λaz da ae=>pr (P:=P) ops i ae cI/\gq E N ops Q pn rest cI az da ae) (λch ae=>pn ch ds ae)) (cW op)):=by
 simp only[dQ,ky,Region.wanted,if_true]
 cases h:cW op
 ·rfl
 ·simp only[if_true,bQ,fK];congr 1
  cases cU P op I U with
  |none=>exact gJ.symm
  |some v=>exact(oe (K:=λv=>gq E N ops Q pn rest ((i,I,v)::cI) (aC I dst v) ds U)).symm
def abi{op:Op}:dQ E N ops Q pn i rest cI I ds U (some ⟨dst,op,ty,pos,af,some (j,b)⟩)=
 ky (pC N dst) (bQ (mB (fK P op I U λv=>gq E N ops Q pn rest ((i,I,v)::cI) (aC I dst v) ds U) (gq E N ops Q pn rest cI (aC I dst undef) ds U) b (hU N ops I j))
  (mB (aT E ⟨dst,op,ty,pos,af,some (j,b)⟩ I ds U (λaz da ae=>pr (P:=P) ops i ae cI/\gq E N ops Q pn rest cI az da ae) (λch ae=>pn ch ds ae)) (gq E N ops Q pn rest cI (aC I dst undef) ds U) b (hU N ops I j)) (cW op)):=by
 simp only[dQ,ky,Region.wanted]
 cases h:cW op
 ·simp only[Bool.false_eq_true,if_false,bQ,mB,beq_iff_eq]
 ·simp only[if_true,bQ,fK,mB,beq_iff_eq];congr 1;split
  ·cases cU P op I U with
   |none=>exact gJ.symm
   |some v=>exact(oe (K:=λv=>gq E N ops Q pn rest ((i,I,v)::cI) (aC I dst v) ds U)).symm
  ·rfl
def ahY:cW (.move x)=true:=bp
def ahA:cW (.assign x)=true:=bp
def ah0{z:Operand}:cW (.pick x y z)=true:=bp
def ahR:cW (.load t x)=true:=bp
def ahZ:cW (.nilCheck x)=true:=bp
def ahK{f:Nat}:cW (.fieldAddr t x f)=true:=bp
def ahB{o:BinOp}:cW (.binOp o t x y u)=true:=bp
def ah3{o:UnOp}:cW (.unOp o t x)=true:=bp
def ahH:cW (.convert t u x)=true:=bp
def ahX:cW (.makeInterface t x)=true:=bp
def ahL{f:Fn}{x y:Array Operand}:cW (.makeFunc f x y)=true:=bp
def ahJ{k:Nat}:cW (.extract x k)=true:=bp
def ahN:cW (.indexAddr t x y)=true:=bp
def ahM:cW (.index t x y)=true:=bp
def ah1:cW (.slice t x lo hi none)=true:=bp
def Hs(t:Nat):Bool:=#[t] != #[273]
def ahQ{x:Array Operand}:cW (.call ⟨.builtin .len,x,#[t]⟩)=Hs t:=bp
def ajx{t:Nat}(h:(t==273)=false):Hs t=true:=by have:t≠273:=aY h;simp[Hs,bne,this]
def ajw:Hs 273=false:=ai
def ahF{a:Array Operand}{b:Array TypeId}:cW (.call ⟨.value x,a,b⟩)=false:=bp
def ahz{x:Array Operand}{a:Array TypeId}:cW (.call ⟨.builtin .append,x,a⟩)=false:=bp
def ah2:cW (.store t x y)=false:=bp
def ahy:cW (.alloc t)=false:=bp
def ahC:cW (.box t x)=false:=bp
variable {p:Array (Nat×Operand)}
def ahD:cW (.buildSlice t n p)=false:=bp
def ahE:cW (.build t p)=false:=bp
def Ua(ops:Array Oper)(i j:Nat):Bool:=match ops[j]? with
 |some o=> !(Dp o.op&& !fe ops i j)
 |none=>true
def jM:pr (P:=P) ops i U []:=trivial
def jL(h:Ua ops i j=true)(k:pr (P:=P) ops i U cI):pr (P:=P) ops i U ((j,I,v)::cI):=by
 refine⟨?_,k⟩;unfold Ua at h;split
 ·rename_i o ho;rw[ho]at h;simp only[Bool.not_eq_true']at h;rw[h];simp
 ·trivial
def aiJ{o:Oper}(ho:ops[j]? =some o)(h:cU P o.op I U=some v)(k:pr (P:=P) ops i U cI):pr (P:=P) ops i U ((j,I,v)::cI):=by
 refine⟨?_,k⟩;rw[ho];simp only[];split
 ·exact h
 ·trivial
def lK{op:Op}(ho:ops[j]? =some ⟨dst,op,ty,pos,af,g⟩)(h:fK P op I U λw=>w=v)(k:pr (P:=P) ops i U cI):pr (P:=P) ops i U ((j,I,v)::cI):=by obtain⟨w,h1,rfl⟩:=h;exact aiJ ho h1 k
variable {p F0:Prop}
def dJ(a:F0)(e:F0->p:=by intro a;repeat(first|exact jM|(apply jL;(focus decide+kernel))|(refine lK rfl (aQ a) ?_))):p:=e a
variable {F1:Prop}
def jf(a:F0)(b:F1)(e:F0->F1->p:=by intro a b;repeat(first|exact jM|(apply jL;(focus decide+kernel))|(refine lK rfl (xg a b) ?_))):p:=e a b
variable {F2:Prop}
def dE(a:F0)(b:F1)(c:F2)(e:F0->F1->F2->p:=by intro a b c;repeat(first|exact jM|(apply jL;(focus decide+kernel))|(refine lK rfl (nW a b c) ?_))):p:=e a b c
def kg4{F3:Prop}(a:F0)(b:F1)(c:F2)(d:F3)(e:F0->F1->F2->F3->p:=by intro a b c d;repeat(first|exact jM|(apply jL;(focus decide+kernel))|(refine lK rfl (iP a b c d) ?_))):p:=e a b c d
attribute [go_sem] abj abh anT abk abi Ya X9 anY anN an0 anW anZ anR anO an3 anP anX anS anQ anV an2 ah1
 ahY ahA ah0 ahR ahZ ahK ahB ah3 ahH ahX ahL ahJ ahN ahM ahQ ajx ajw ahF ahz ah2 ahy ahC ahD ahE
variable {A:Prop}
def gp{B:Prop}(b:B)(a:A:=by(repeat(first|exact jM|(apply jL;(focus decide+kernel))))):A/\B:=⟨a,b⟩
def LH{B:Prop}(f:F0)(b:B)(a:F0->A:=by intro f;(repeat(first|exact jM|(apply jL;(focus decide+kernel))|(refine lK rfl (by simp only[go_sem,seval,f]) ?_)))):A/\B:=⟨a f,b⟩
def S0{B:Prop}(f:F0)(g:F1)(b:B)(a:F0->F1->A:=by intro f g;(repeat(first|exact jM|(apply jL;(focus decide+kernel))|(refine lK rfl (by simp only[go_sem,seval,f,g]) ?_)))):A/\B:=⟨a f g,b⟩
def kp3{B:Prop}(f:F0)(g:F1)(h:F2)(b:B)(a:F0->F1->F2->A:=by intro f g h;(repeat(first|exact jM|(apply jL;(focus decide+kernel))|(refine lK rfl (by simp only[go_sem,seval,f,g,h]) ?_)))):A/\B:=⟨a f g h,b⟩
def ahT{r:Option Operand}:cW (.makeMap t r)=false:=bp
attribute [go_sem] ahT
def iw(ops:Array Oper)(v u:Nat):Array Oper:=ops.modify v λo=>{o with after:=o.after.push {on:=u,ground:=.data}}
variable {u v:Nat}
def WS:(iw ops v u).size=ops.size:=by simp[iw]
def IV:(iw ops v u)[i]? =(ops[i]?).map λo=>if i=v then{o with after:=o.after.push {on:=u,ground:=.data}}else o:=by
 unfold iw;rw[Array.getElem?_modify];by_cases h:v=i
 ·subst h;cases ops[v]? <;>simp
 ·have:¬i=v:=λe=>h e.symm
  cases ops[i]? <;>simp[h,this]
def wX{listed:Array Bool}:i∈Region.ready .any (iw ops v u) listed↔i∈Region.ready .any ops listed/\(i=v->listed.getD u false=true):=by
 rw[mem_ready,mem_ready,IV];constructor
 ·rintro⟨h0,o,ho,hd⟩;obtain⟨o',uz,rfl⟩:=Option.map_eq_some_iff.1 ho;by_cases e:i=v
  ·simp only[if_pos e]at hd;refine⟨⟨h0,o',uz,λx hx hb=>hd x (by simp[hx]) hb⟩,λ_=>hd ⟨u,.data⟩ al rfl⟩
  ·simp only[if_neg e]at hd;exact⟨⟨h0,o',uz,hd⟩,λh=>absurd h e⟩
 ·rintro⟨⟨h0,o,ho,hd⟩,hv⟩;refine⟨h0,_,by rw[ho];rfl,λx hx hb=>?_⟩;by_cases e:i=v
  ·simp only[if_pos e,Array.mem_push]at hx;rcases hx with hx|rfl
   ·exact hd x hx hb
   ·exact hv e
  ·simp only[if_neg e]at hx;exact hd x hx hb
def arB:hU N (iw ops v u) I=hU N ops I:=by
 funext j
 unfold hU;rw[IV]
 cases ops[j]? with
 |none=>rfl
 |some o=>by_cases h:j=v<;>simp[h]
variable {K:av->List Deferred->Hp->Prop}
def E5:mv E N (iw ops v u) Q i K I ds U↔mv E N ops Q i K I ds U:=by
 unfold mv;rw[IV,arB]
 cases ops[i]? with
 |none=>exact Iff.rfl
 |some o=>
  by_cases h:i=v
  ·simp only[Option.map_some,if_pos h];exact Iff.rfl
  ·simp only[Option.map_some,if_neg h]
def apM{o:Oper}(ho:ops[i]? =some o)(hr:cW o.op=true){K':av->List Deferred->Hp->Prop}(h:mv E N ops Q i K I ds U)(h':mv E N ops Q i K' I ds U):
 mv E N ops Q i (λI ds U=>K I ds U/\K' I ds U) I ds U:=by
 unfold mv at*;rw[ho]at*;refine⟨h.1,?_⟩;have h2:=h.2;have lB:=h'.2;split
 ·rename_i hw;rw[if_pos hw,if_pos hr]at h2 lB;obtain⟨v,e,k⟩:=h2;obtain⟨v',e',k'⟩:=lB;rw[e]at e';obtain rfl:=Option.some.inj e';exact⟨v,e,k,k'⟩
 ·rename_i hw;rw[if_neg hw]at h2 lB;exact⟨h2,lB⟩
def Ov:∀(fuel:Nat) (listed:Array Bool) (I:av) (ds:List Deferred) (U:Hp),listed.getD u false=true->tL E N (iw ops v u) Q fuel listed I ds U->tL E N ops Q fuel listed I ds U:=by
 have hr:∀(listed:Array Bool),listed.getD u false=true->∀i,i∈Region.ready .any ops listed->i∈Region.ready .any (iw ops v u) listed:=λlisted hv i hi=>wX.2 ⟨hi,λ_=>hv⟩
 have gN:∀(listed:Array Bool),Region.ready .any ops listed=[]->Region.ready .any (iw ops v u) listed=[]:=by
  intro listed h
  cases e:Region.ready .any (iw ops v u) listed with
  |nil=>rfl
  |cons i t=>
   have:i∈Region.ready .any (iw ops v u) listed:=by rw[e];simp
   have:=(wX.1 this).1;rw[h]at this;cases this
 have Sm:∀(listed:Array Bool) (i:Nat),listed.getD u false=true->(listed.setIfInBounds i true).getD u false=true:=by
  intro listed i h;simp only[Array.getD_eq_getD_getElem?]at*;rw[Array.getElem?_setIfInBounds];by_cases e:i=u
  ·subst e;by_cases hb:i<listed.size
   ·simp[hb]
   ·rw[Array.getElem?_eq_none aa]at h;cases h
  ·simp only[if_neg e];exact h
 intro fuel
 induction fuel with
 |zero=>
  intro listed I ds U hv h;refine⟨?_,h.2⟩
  cases e:Region.ready .any ops listed with
  |nil=>rfl
  |cons i t=>
   have:i∈Region.ready .any ops listed:=by rw[e];simp
   have:=hr listed hv i this;rw[h.1]at this;cases this
 |succ fuel ih=>
  intro listed I ds U hv h;refine⟨λh0=>h.1 (gN listed h0),λi hi=>?_⟩;exact E6 (λI ds U=>ih _ I ds U (Sm listed i hv)) (E5.1 (h.2 i (hr listed hv i hi)))
def aqw(Lm:u≠v)(hu:u<ops.size)(hv:v<ops.size)(ae0:∀i,i<ops.size->oI ops i=true\/i=u\/i=v\/fe ops i u=true):
 ∀(fuel:Nat) (listed:Array Bool) (I:av) (ds:List Deferred) (U:Hp),listed.size=ops.size->(∀a b,listed.getD a false=true->fe ops a b=true->listed.getD b false=true)->listed.getD u true=false->listed.getD v true=false->
  tL E N (iw ops v u) Q fuel listed I ds U->tL E N (iw ops u v) Q fuel listed I ds U->tL E N ops Q fuel listed I ds U:=by
 have hgd:∀(listed:Array Bool) (i:Nat),i<listed.size->listed.getD i true=listed.getD i false:=by intro listed i h;simp[Array.getD_eq_getD_getElem?,Array.getElem?_eq_getElem h]
 intro fuel
 induction fuel with
 |zero=>
  intro listed I ds U gU Gz zt R7 h1 h2;refine⟨?_,h1.2⟩
  cases e:Region.ready .any ops listed with
  |nil=>rfl
  |cons i t=>
   exfalso;have hm:i∈Region.ready .any ops listed:=by rw[e];simp
   by_cases hi:i=v
   ·have:i∈Region.ready .any (iw ops u v) listed:=wX.2 ⟨hm,λe=>absurd (e.symm.trans hi) Lm⟩;rw[h2.1]at this;cases this
   ·have:i∈Region.ready .any (iw ops v u) listed:=wX.2 ⟨hm,λe=>absurd e hi⟩;rw[h1.1]at this;cases this
 |succ fuel ih=>
  intro listed I ds U gU Gz zt R7 h1 h2;refine⟨λh0=>h1.1 ?_,λi hi=>?_⟩
  ·cases e:Region.ready .any (iw ops v u) listed with
   |nil=>rfl
   |cons i t=>
    have:i∈Region.ready .any (iw ops v u) listed:=by rw[e];simp
    have:=(wX.1 this).1;rw[h0]at this;cases this
  ·have Sm:∀k,k<listed.size->(listed.setIfInBounds k true).getD k true=true:=by intro k hk;simp[Array.getD_eq_getD_getElem?,hk]
   by_cases GL:i=v
   ·subst GL;have hm:i∈Region.ready .any (iw ops u i) listed:=wX.2 ⟨hi,λe=>absurd e.symm Lm⟩;have:=E5.1 (h2.2 i hm);refine E6 (λI ds U hk=>?_) this;refine Ov _ _ _ _ _ ?_ hk;simp[Array.getD_eq_getD_getElem?,gU,hv]
   ·by_cases GK:i=u
    ·subst GK;have hm:i∈Region.ready .any (iw ops v i) listed:=wX.2 ⟨hi,λe=>absurd e Lm⟩;have:=E5.1 (h1.2 i hm);refine E6 (λI ds U hk=>?_) this;refine Ov _ _ _ _ _ ?_ hk;simp[Array.getD_eq_getD_getElem?,gU,hu]
    ·have m1:i∈Region.ready .any (iw ops v u) listed:=wX.2 ⟨hi,λe=>absurd e GL⟩;have m2:i∈Region.ready .any (iw ops u v) listed:=wX.2 ⟨hi,λe=>absurd e GK⟩;have s1:=E5.1 (h1.2 i m1);have s2:=E5.1 (h2.2 i m2);obtain⟨lH,o,ho,Kw⟩:=mem_ready.1 hi;have tb:i<ops.size:=(Array.getElem?_eq_some_iff.1 ho).1;have uj:∀j,fe ops i j=true->listed.getD j false=true:=λj hj=>UK Gz ho Kw hj
     have gO:cW o.op=true:=by
      rcases ae0 i tb with h|h|h|h
      ·unfold oI at h;rw[ho]at h;exact h
      ·exact absurd h GK
      ·exact absurd h GL
      ·have:=uj u h;rw[<-hgd listed u aa,zt]at this;cases this
     have oz:∀(d:Bool) k,k≠i->(listed.setIfInBounds i true).getD k d=listed.getD k d:=by intro d k hk;simp[Array.getD_eq_getD_getElem?,Array.getElem?_setIfInBounds_ne (Ne.symm hk)]
     have oA:(listed.setIfInBounds i true).getD i false=true:=by simp[Array.getD_eq_getD_getElem?,gU,tb]
     refine E6 (λI ds U hk=>ih _ _ _ _ (aY gU) ?_ ?_ ?_ hk.1 hk.2) (apM ho gO s1 s2)
     ·intro a b ha dm;by_cases e:b=i
      ·subst e;exact oA
      ·rw[oz false b e];by_cases e':a=i
       ·subst e';exact uj b dm
       ·rw[oz false a e']at ha;exact Gz a b ha dm
     ·rw[oz true u (Ne.symm GK)];exact zt
     ·rw[oz true v (Ne.symm GL)];exact R7
def PZ(hc:sN ops l=true)(uA:∀ch I ds U,pn ch ds U->Q (.panic ch) I ds U)(h:gq E N ops Q pn l [] I ds U):
 tL E N ops Q ops.size (Array.replicate ops.size false) I ds U:=by
 have G:=QR hc;have e0:sl ops I (λ_=>none)=I:=by funext t;exact vn (λ_ _=>rfl)
 have lH:∀i,(Array.replicate ops.size false).getD i false=false:=λi=>by rw[Array.getD_eq_getD_getElem?,Array.getElem?_replicate];split<;>rfl
 have aut:vy E N ops Q pn I l (Array.replicate ops.size false) [] l [] (λ_=>none) ds U:=by refine⟨al,rfl,λi hi=>(by rw[lH]at hi;cases hi),λi hi=>(by cases hi),λ_ _=>rfl,λi hi=>(by cases hi),λi j hi=>(by rw[lH]at hi;cases hi),λr hr=>(by cases hr),(by rw[e0];exact h)⟩
 obtain⟨HH,oJ,u0,lT,I',_,hh⟩:=advance G _ _ _ _ aut;have:=Ow G uA ops.size _ _ _ _ _ _ _ (by unfold Cb;exact Nat.le_trans List.countP_le_length al) I' hh
 have e1:sl ops I (λi=>if(Array.replicate ops.size false).getD i false=true then lT i else none)=I:=by funext t;exact vn (λi _=>by rw[lH];rfl)
 rw[e1]at this;exact this
def Ny{id:Nat}(u v:Nat)(l1 l2:List Nat)(pn:List PanicEntry->List Deferred->Hp->Prop)(hm:P.follows .mixedOrders=true)(hc:(sN (iw ops v u) l1&&sN (iw ops u v) l2&&(u !=v)&&decide (u<ops.size)&&decide (v<ops.size)&&(List.range ops.size).all λi=>oI ops i||i==u||i==v||fe ops i u)=true)(uA:∀ch I ds U,pn ch ds U->Q (.panic ch) I ds U)(h1:gq E N (iw ops v u) Q pn l1 [] I ds U)(h2:gq E N (iw ops u v) Q pn l2 [] I ds U):cO E N (.region id ops true) Q I ds U:=by
 intro t;simp only[Bool.and_eq_true,List.all_eq_true,List.mem_range,Bool.or_eq_true,bne_iff_ne,ne_eq,decide_eq_true_eq,beq_iff_eq]at hc;obtain⟨⟨⟨⟨⟨c1,c2⟩,c3⟩,c4⟩,c5⟩,c6⟩:=hc
 have lH:∀(n i:Nat),(Array.replicate n false).getD i false=false:=λn i=>by rw[Array.getD_eq_getD_getElem?,Array.getElem?_replicate];split<;>rfl
 have a1:=PZ (E:=E) (N:=N) c1 uA h1;have a2:=PZ (E:=E) (N:=N) c2 uA h2;rw[WS]at a1 a2;have:=aqw c3 c4 c5 (λi hi=>by rcases c6 i hi with((h|h)|h)|h<;>simp[h]) ops.size (Array.replicate ops.size false) I ds U al (λa b ha=>by rw[lH]at ha;cases ha) (by simp[Array.getD_eq_getD_getElem?,c4]) (by simp[Array.getD_eq_getD_getElem?,c5]) a1 a2;simp only[Region.schedule,hm,Bool.true_or,if_true];exact VP _ t _ _ _ _ this
end
section
open Go.Proofs
@[go_sem] def WX:dC prog 36=true:=ah
@[go_sem] def asl:qm prog 23=true/\iX prog 22=some 1/\dq prog 3=true/\dC prog 3=false/\cC prog 3=1/\qw prog 9=true/\dw prog 36=some (.agg #[.slice none 0 0,.slice none 0 0])/\dq prog 36=true/\cC prog 36=2/\bL prog 36 0=some 0/\dq prog 34=true/\dC prog 34=false:=by and_intros<;>kernel_rfl
@[go_sem] def asr:cC prog 34=1/\iX prog 34=some 4/\bL prog 39 1=some 1/\bL prog 39 2=some 2/\iX prog 49=some 1/\dq prog 9=true/\dC prog 9=false/\cC prog 9=1/\iX prog 43=some 2/\bL prog 55 1=some 1/\bL prog 55 0=some 0/\dq prog 22=true:=by and_intros<;>kernel_rfl
@[go_sem] def ast:dC prog 22=false/\cC prog 22=1/\uI prog 45=true/\kQ prog 22 1=some (3,[(0,1)],[.int Go.IntKind.i64 0])/\dw prog 66=some (.agg #[.int Go.IntKind.i64 0,.int Go.IntKind.i64 0,.int Go.IntKind.i64 0,.int Go.IntKind.i64 0,.int Go.IntKind.i64 0])/\jF prog 66=some [(0,1),(1,1),(2,1),(3,1),(4,1)]/\lR prog 3 5=none/\tz prog 3 5=some Go.IntKind.u8/\kQ prog 67 2=some (5,[(0,1),(1,1)],[.int Go.IntKind.u8 0,.int Go.IntKind.u8 0])/\lR prog 67 9=none/\kQ prog 67 1=some (5,[(0,1)],[.int Go.IntKind.u8 0])/\bL prog 74 4=some 8:=by and_intros<;>kernel_rfl
@[go_sem] def asw:dq prog 72=true/\dC prog 72=false/\jF prog 36=some [(0,1),(1,1)]/\bL prog 74 1=some 5/\dq prog 71=true/\dC prog 71=false/\iX prog 75=some 1/\dq prog 77=true/\dC prog 77=false/\cC prog 77=1/\bL prog 81 0=some 0/\bL prog 81 2=some 2:=by and_intros<;>kernel_rfl
@[go_sem] def asy:dw prog 39=some (.agg #[.string (B []),.int Go.IntKind.i64 0,.int Go.IntKind.i64 0,.int Go.IntKind.i64 0])/\jF prog 39=some [(0,1),(1,1),(2,1),(3,1)]/\kQ prog 34 1=some (39,[(0,4)],[.string (B []),.int Go.IntKind.i64 0,.int Go.IntKind.i64 0,.int Go.IntKind.i64 0])/\qm prog 70=true/\iJ prog 51=true/\bL prog 90 2=some 2/\dq prog 85=true/\dC prog 85=false/\cC prog 85=1/\bL prog 74 2=some 6/\bL prog 90 9=some 10/\bL prog 90 7=some 8:=by and_intros<;>kernel_rfl
@[go_sem] def asA:bL prog 90 8=some 9/\bL prog 66 0=some 0/\bL prog 66 1=some 1/\bL prog 66 2=some 2/\bL prog 66 3=some 3/\bL prog 66 4=some 4/\dq prog 66=true/\dC prog 66=true/\cC prog 66=5/\dw prog 74=some (.agg #[.int Go.IntKind.i64 0,.int Go.IntKind.i64 0,.int Go.IntKind.i64 0,.int Go.IntKind.i64 0,.int Go.IntKind.i64 0,.pointer none,.int Go.IntKind.i64 0,.int Go.IntKind.i64 0,.map none])/\jF prog 74=some [(0,5),(5,1),(6,1),(7,1),(8,1)]/\bL prog 116 0=some 0:=by and_intros<;>kernel_rfl
@[go_sem] def asD:dq prog 114=true/\dC prog 114=false/\bL prog 81 1=some 1/\dq prog 78=true/\dC prog 78=false/\cC prog 78=1/\qw prog 78=false/\iX prog 78=some 4/\bL prog 81 4=some 4/\dq prog 79=true/\dC prog 79=false/\cC prog 79=1:=by and_intros<;>kernel_rfl
@[go_sem] def adG:cz prog 54=true:=ah
@[go_sem] def ase:qw prog 79=false/\iX prog 79=some 1/\bL prog 74 3=some 7/\bL prog 74 0=some 0/\dw prog 90=some (.agg #[.pointer none,.int Go.IntKind.i64 0,.int Go.IntKind.i64 0,.string (B []),.bool false,.map none,.int Go.IntKind.i64 0,.int Go.IntKind.i64 0,.int Go.IntKind.i64 0,.int Go.IntKind.i64 0,.int Go.IntKind.i64 0,.string (B [])])/\jF prog 90=some [(0,1),(1,1),(2,1),(3,2),(5,1),(6,1),(7,1),(8,1),(9,1),(10,1),(11,1)]/\bL prog 90 10=some 11/\dw prog 55=some (.agg #[.int Go.IntKind.i64 0,.string (B [])])/\jF prog 55=some [(0,1),(1,1)]/\kQ prog 43 1=some (55,[(0,2)],[.int Go.IntKind.i64 0,.string (B [])])/\dw prog 119=some (.chan none)/\dw prog 120=some (.chan none):=by and_intros<;>kernel_rfl
@[go_sem] def asf:dw prog 121=some (.chan none)/\dq prog 119=true/\cC prog 119=1/\dq prog 120=true/\cC prog 120=1/\dq prog 121=true/\cC prog 121=1/\dq prog 70=true/\dC prog 70=false/\bL prog 90 6=some 7/\dw prog 135=some (.agg #[.int Go.IntKind.i64 0,.int Go.IntKind.i64 0,.string (B []),.bool false,.bool false])/\dq prog 135=true:=by and_intros<;>kernel_rfl
@[go_sem] def WV:dC prog 135=true:=ah
@[go_sem] def adI:cz prog 59=true:=ah
@[go_sem] def asg:cC prog 135=5/\bL prog 135 0=some 0/\bL prog 135 3=some 3/\dq prog 4=true/\dC prog 4=false/\cC prog 4=1/\bL prog 135 4=some 4/\bL prog 90 0=some 0/\dq prog 23=true/\dC prog 23=false/\uI prog 20=true/\dw prog 140=some (.agg #[.pointer none,.pointer none,.int Go.IntKind.u64 0]):=by and_intros<;>kernel_rfl
@[go_sem] def ash:dq prog 140=true/\dC prog 140=true/\cC prog 140=3/\dq prog 143=true/\dC prog 143=false/\lR prog 5 3=none/\tz prog 5 3=some Go.IntKind.i64/\dw prog 155=some (.agg #[.pointer none,.slice none 0 0])/\jF prog 155=some [(0,2)]/\iJ prog 157=true/\iJ prog 158=true/\iJ prog 159=true:=by and_intros<;>kernel_rfl
@[go_sem] def adJ:cz prog 65=true:=ah
@[go_sem] def adK:cz prog 66=true:=ah
@[go_sem] def adL:cz prog 67=true:=ah
@[go_sem] def adM:cz prog 82=true:=ah
@[go_sem] def adN:cz prog 85=true:=ah
@[go_sem] def asi:kQ prog 235 3=some (20,[(0,1),(1,1),(2,1)],[.nilIface,.nilIface,.nilIface])/\bL prog 155 0=some 0/\dw prog 116=some (.agg #[.map none,.int Go.IntKind.i64 0,.int Go.IntKind.i64 0,.int Go.IntKind.i64 0])/\jF prog 116=some [(0,1),(1,1),(2,1),(3,1)]/\bL prog 90 4=some 5/\dq prog 88=true/\dC prog 88=false/\cC prog 88=1/\qm prog 186=true/\bL prog 191 1=some 1/\bL prog 81 3=some 3/\dw prog 193=some (.agg #[.int Go.IntKind.i64 0,.string (B []),.string (B []),.bool false]):=by and_intros<;>kernel_rfl
@[go_sem] def SQ:dq prog 193=true:=ah
@[go_sem] def adH:cz prog 58=true:=ah
@[go_sem] def ac8:cz prog 104=true:=ah
@[go_sem] def WY:dC prog 45=false:=ah
@[go_sem] def asj:dC prog 193=true/\cC prog 193=4/\bL prog 191 0=some 0/\dq prog 189=true/\dC prog 189=false/\bL prog 87 0=some 0/\dw prog 217=some (.agg #[.int Go.IntKind.i64 0,.int Go.IntKind.i64 0,.int Go.IntKind.i64 0])/\jF prog 217=some [(0,1),(1,1),(2,1)]/\dq prog 45=true/\cC prog 45=1/\iX prog 235=some 1/\dq prog 20=true:=by and_intros<;>kernel_rfl
@[go_sem] def AY:cz prog 116=true:=ah
@[go_sem] def QH:cz prog 117=true:=ah
@[go_sem] def asm:dC prog 20=false/\dw prog 157=some (.int Go.IntKind.i64 0)/\dw prog 158=some (.int Go.IntKind.i64 0)/\dw prog 159=some (.int Go.IntKind.i64 0)/\iJ prog 237=true/\dw prog 237=some (.int Go.IntKind.i64 0)/\iJ prog 238=true/\dw prog 238=some (.string (B []))/\qw prog 238=true/\iJ prog 239=true/\bL prog 153 1=some 1/\dq prog 67=true:=by and_intros<;>kernel_rfl
@[go_sem] def akO:BO prog 9=true:=ah
@[go_sem] def QI:cz prog 135=true:=ah
@[go_sem] def asn:dC prog 67=false/\cC prog 67=1/\iX prog 67=some 1/\lR prog 9 67=some 5/\dq prog 5=true/\dC prog 5=false/\lR prog 3 68=none/\tz prog 3 68=some Go.IntKind.u64/\bL prog 276 6=some 6/\dq prog 274=true/\dC prog 274=false/\bL prog 276 0=some 0:=by and_intros<;>kernel_rfl
@[go_sem] def aso:bL prog 276 5=some 5/\dq prog 273=true/\dC prog 273=false/\dq prog 186=true/\dC prog 186=false/\cC prog 186=1/\bL prog 191 4=some 4/\jF prog 193=some [(0,1),(1,1),(2,1),(3,1)]/\bL prog 87 1=some 1/\jF prog 135=some [(0,1),(1,1),(2,1),(3,1),(4,1)]/\dw prog 289=some (.agg #[.string (B [])])/\jF prog 289=some [(0,1)]:=by and_intros<;>kernel_rfl
@[go_sem] def og:cz prog 147=true:=ah
@[go_sem] def QJ:cz prog 148=true:=ah
@[go_sem] def ac9:cz prog 150=true:=ah
@[go_sem] def asp:bL prog 135 1=some 1/\bL prog 289 0=some 0/\bL prog 135 2=some 2/\bL prog 217 0=some 0/\dq prog 215=true/\dC prog 215=false/\bL prog 217 1=some 1/\bL prog 217 2=some 2/\kQ prog 235 4=some (20,[(0,1),(1,1),(2,1),(3,1)],[.nilIface,.nilIface,.nilIface,.nilIface])/\dw prog 293=some (.agg #[.int Go.IntKind.i64 0,.int Go.IntKind.i64 0,.string (B []),.bool false,.bool false,.string (B []),.int Go.IntKind.i64 0,.int Go.IntKind.i64 0])/\jF prog 293=some [(0,5),(5,1),(6,1),(7,1)]/\dw prog 296=some (.agg #[.pointer none]):=by and_intros<;>kernel_rfl
@[go_sem] def asq:dw prog 214=some (.pointer none)/\iJ prog 297=true/\bL prog 296 0=some 0/\dq prog 214=true/\dC prog 214=false/\iJ prog 298=true/\bL prog 153 0=some 0/\dq prog 151=true/\dC prog 151=false/\cC prog 151=1/\qm prog 151=true/\lR prog 151 137=none:=by and_intros<;>kernel_rfl
@[go_sem] def ada:cz prog 165=true:=ah
@[go_sem] def adb:cz prog 167=true:=ah
@[go_sem] def ade:cz prog 169=true:=ah
@[go_sem] def adf:cz prog 170=true:=ah
@[go_sem] def adg:cz prog 172=true:=ah
@[go_sem] def adh:cz prog 181=true:=ah
@[go_sem] def adi:cz prog 184=true:=ah
@[go_sem] def ass:lR prog 137 151=none/\kQ prog 49 1=some (9,[(0,1)],[.string (B [])])/\dq prog 75=true/\dC prog 75=false/\cC prog 75=1/\kQ prog 75 1=some (77,[(0,1)],[.pointer none])/\bL prog 191 3=some 3/\dw prog 280=some (.agg #[.pointer none,.int Go.IntKind.i64 0,.string (B []),.string (B []),.bool false])/\dq prog 280=true/\cC prog 280=5/\bL prog 280 0=some 0/\bL prog 280 1=some 1:=by and_intros<;>kernel_rfl
@[go_sem] def QK:cz prog 188=true:=ah
@[go_sem] def adj:cz prog 190=true:=ah
@[go_sem] def adk:cz prog 191=true:=ah
@[go_sem] def adl:cz prog 192=true:=ah
@[go_sem] def asu:dw prog 325=some (.agg #[])/\jF prog 325=some []/\iJ prog 325=true/\kQ prog 235 2=some (20,[(0,1),(1,1)],[.nilIface,.nilIface])/\dw prog 45=some (.nilIface)/\dq prog 291=true/\dC prog 291=false/\bL prog 293 0=some 0/\bL prog 293 1=some 5/\bL prog 293 2=some 6/\bL prog 293 3=some 7/\bL prog 276 2=some 2:=by and_intros<;>kernel_rfl
@[go_sem] def adm:cz prog 210=true:=ah
@[go_sem] def asv:bL prog 276 1=some 1/\lR prog 3 342=none/\tz prog 3 342=some Go.IntKind.u64/\dw prog 342=some (.int Go.IntKind.u64 0)/\dq prog 342=true/\dC prog 342=false/\cC prog 342=1/\lR prog 68 3=none/\tz prog 68 3=some Go.IntKind.i64/\dw prog 3=some (.int Go.IntKind.i64 0)/\lR prog 126 5=none/\tz prog 126 5=some Go.IntKind.u8:=by and_intros<;>kernel_rfl
@[go_sem] def adn:cz prog 220=true:=ah
@[go_sem] def ado:cz prog 221=true:=ah
@[go_sem] def adp:cz prog 222=true:=ah
@[go_sem] def adq:cz prog 223=true:=ah
@[go_sem] def sU:cz prog 228=true:=ah
@[go_sem] def adt:cz prog 229=true:=ah
@[go_sem] def QL:cz prog 230=true:=ah
@[go_sem] def adu:cz prog 231=true:=ah
@[go_sem] def JP:cz prog 237=true:=ah
@[go_sem] def ads:cz prog 225=true:=ah
@[go_sem] def asx:bL prog 193 3=some 3/\bL prog 193 0=some 0/\kQ prog 78 1=some (193,[(0,4)],[.int Go.IntKind.i64 0,.string (B []),.string (B []),.bool false])/\dq prog 325=true/\cC prog 325=0/\iJ prog 214=true/\kQ prog 235 1=some (20,[(0,1)],[.nilIface])/\bL prog 90 5=some 6/\qm prog 185=true/\dw prog 276=some (.agg #[.pointer none,.int Go.IntKind.i64 0,.bool false,.int Go.IntKind.i64 0,.int Go.IntKind.i64 0,.map none,.map none,.int Go.IntKind.i64 0,.string (B []),.string (B []),.int Go.IntKind.i64 0])/\jF prog 276=some [(0,1),(1,1),(2,1),(3,1),(4,1),(5,1),(6,1),(7,1),(8,1),(9,1),(10,1)]/\kQ prog 78 0=some (193,[],[]):=by and_intros<;>kernel_rfl
@[go_sem] def adv:cz prog 244=true:=ah
@[go_sem] def adw:cz prog 245=true:=ah
@[go_sem] def adx:cz prog 246=true:=ah
@[go_sem] def ady:cz prog 247=true:=ah
@[go_sem] def QO:cz prog 267=true:=ah
@[go_sem] def adz:cz prog 268=true:=ah
@[go_sem] def adA:cz prog 269=true:=ah
@[go_sem] def adB:cz prog 270=true:=ah
@[go_sem] def adC:cz prog 271=true:=ah
@[go_sem] def adD:cz prog 272=true:=ah
@[go_sem] def adE:cz prog 273=true:=ah
@[go_sem] def asz:kQ prog 22 2=some (3,[(0,1),(1,1)],[.int Go.IntKind.i64 0,.int Go.IntKind.i64 0])/\bL prog 276 7=some 7/\dq prog 49=true/\dC prog 49=false/\cC prog 49=1/\iJ prog 215=true/\bL prog 276 10=some 10/\bL prog 276 9=some 9/\bL prog 276 3=some 3/\bL prog 276 8=some 8/\jF prog 296=some [(0,1)]/\iJ prog 296=true:=by and_intros<;>kernel_rfl
@[go_sem] def adF:cz prog 286=true:=ah
@[go_sem] def JQ:cz prog 289=true:=ah
@[go_sem] def asB:iJ prog 185=true/\dw prog 191=some (.agg #[.nilIface,.int Go.IntKind.i64 0,.string (B []),.pointer none,.bool false])/\jF prog 191=some [(0,1),(1,1),(2,1),(3,1),(4,1)]/\bL prog 193 1=some 1/\bL prog 193 2=some 2/\qm prog 77=true/\bL prog 116 1=some 1/\bL prog 116 2=some 2/\dw prog 81=some (.agg #[.string (B []),.slice none 0 0,.int Go.IntKind.i64 0,.int Go.IntKind.i64 0,.slice none 0 0])/\jF prog 81=some [(0,1),(1,1),(2,1),(3,1),(4,1)]/\bL prog 116 3=some 3/\kQ prog 79 1=some (186,[(0,1)],[.pointer none]):=by and_intros<;>kernel_rfl
@[go_sem] def asC:bL prog 276 4=some 4/\jF prog 280=some [(0,1),(1,4)]/\lR prog 21 129=none/\tz prog 21 129=some Go.IntKind.u32/\lR prog 21 5=none/\tz prog 21 5=some Go.IntKind.u8/\bL prog 191 2=some 2:=by and_intros<;>kernel_rfl
end
section
open Go.Conc
open Go.ConcN (sumTo upd sumTo_upd upd_ne upd_same)
def tQ(auu:Nat->Prop):Loc->Prop:=λl=>∃a:Addr,l=.cell a/\auu a.block
variable {auu:Nat->Prop}{n:Nat}{e:Event}
def ab4(h:iF auu n e):EvL (tQ auu) n e:=by
 obtain⟨loc,wr,sy⟩:=e;unfold iF at h
 cases loc with
 |cell a=>
  obtain⟨h1,h2⟩:¬auu a.block/\a.block<n:=h;refine⟨λx hx hs=>?_,al,al,?_⟩
  ·obtain⟨b,hb,hj⟩:=hs
   have:x.loc=.cell a:=by cases sy<;>simp[MemAct.ofEvent,MemAct.touch?]at hx<;>subst hx<;>rfl
   rw[this]at hb;cases hb
   exact absurd hj h1
  ·cases sy<;>cases wr<;>exact h2
 |obj r=>
  obtain⟨h1,h2⟩:¬auu r/\r<n:=h;refine⟨λx hx hs=>?_,al,al,?_⟩
  ·obtain⟨b,hb,hj⟩:=hs;exfalso
   cases sy<;>cases wr<;>simp[MemAct.ofEvent,MemAct.touch?]at hx<;>subst hx<;>cases hb
  ·cases sy<;>cases wr<;>exact h2
 |output=>exact h.elim
 |goroutines=>exact h.elim
 |mark m=>
  have h:BQ m=true:=h
  cases m<;>first|cases h|skip
  ·exact⟨λx hx=>by simp[MemAct.ofEvent,MemAct.touch?]at hx,al,al,trivial⟩
  ·exact⟨λx hx=>by simp[MemAct.ofEvent,MemAct.touch?]at hx,al,al,trivial⟩
def pM(Q:Loc->Prop)(t:Trace):Prop:=∀op∈t,∀a,Q (.cell a)->op.act≠.mark (.release a)
variable {Q:Loc->Prop}{t:Trace}
def pM.app{u:Trace}(h:pM Q t)(k:∀op∈u,∀a,op.act≠.mark (.release a)):pM Q (t++u):=λop aS=>(Array.mem_append.1 aS).elim (h op) (λhu a _=>k op hu a)
def BM(h:∀a,e.loc≠.mark (.release a)):∀a,MemAct.ofEvent e≠.mark (.release a):=by
 intro a ha;obtain⟨loc,wr,sy⟩:=e
 cases loc<;>cases wr<;>cases sy<;>simp[MemAct.ofEvent]at ha<;>subst ha<;>exact h a rfl
def Mk(h:e.mute=true):∀a,MemAct.ofEvent e≠.mark (.release a):=by
 refine BM λa ha=>?_;obtain⟨loc,wr,sy⟩:=e
 cases ha
 simp[Event.mute]at h
def ak9(h:iF auu n e):∀a,e.loc≠.mark (.release a):=by intro a ha;unfold iF at h;rw[ha]at h;exact absurd h (by simp[BQ])
def pM.events(h:pM Q t){g:Nat}{fn:FuncId}{pos:String}{es:Array Event}(k:∀e∈es,∀a,MemAct.ofEvent e≠.mark (.release a)):pM Q (t++MemOp.ofEvents g fn pos es):=
 h.app λop aS=>by obtain⟨e,he,rfl⟩:=Conc.mem_ofEvents aS;exact k e he
structure lV (W w:World):Prop where
 os:w.os=W.os
 tape:w.tape=W.tape
 output:w.output=W.output
variable {W w:World}
def lV.kept{w':World}(h:lV W w)(k:Kept auu w w'):lV W w':=⟨k.os.trans h.os,k.tape.trans h.tape,k.output.trans h.output⟩
def lV.at(h:lV W w)(d:Nat):lV W (w.at d):=⟨h.os,h.tape,h.output⟩
def yN(P:Program)(W:World)(g:Goroutine)(U:Hp)(m:Machine)(T:Trace):Prop:=
 ∃gs w sl q auu,m=crowd gs w sl/\gs[0]? =some g/\Leavers P T gs q/\Past (tQ auu) w.heap.size T/\cQ auu w U/\lV W w/\pM (λ_=>False) T
def cQ.at{U:Hp}(h:cQ auu w U)(d:Nat):cQ auu (w.at d) U:=⟨h.heap,h.fX,h.low⟩
variable {P:Program}{g:Goroutine}{U:Hp}{X:Goroutine->Hp->Prop}
def Vd(hX:ic P true g U X){gs:Array Goroutine}{sl bF:Option (Nat×Nat)}{q:Nat->Nat}{d:Nat}(h0:gs[0]? =some g)(hL:Leavers P t gs q)(hP:Past (tQ auu) w.heap.size t)(hS:cQ auu w U)(hF:lV W w)(hN:pM (λ_=>False) t)(bw:stepT P (crowd gs w sl)=runT P (crowd gs (w.at d) bF) 0):∃N m' t' g' ae,runNT P N (crowd gs w sl) t=(.next m',t')/\yN P W g' ae m' t'/\g'.status=.running/\X g' ae:=by
 have hs:=hX auu (w.at d) (hS.at d)
 cases hgo:stepG P true g (w.at d)with
 |go a' w' es=>
  rw[hgo,goes_go]at hs;obtain⟨ae,xA,hK,he,eV,hx⟩:=hs;have eX:=runT_crowd_go (P:=P) (sl:=bF) (i:=0) h0 (show stepG P (0==0) g (w.at d)=_ from hgo);have bd:0<gs.size:=(Array.getElem?_eq_some_iff.1 h0).1
  have kH:runNT P 1 (crowd gs w sl) t=(.next (crowd ((gs.map (woken P g a' w')).setIfInBounds 0 a') w' bF),t++MemOp.ofEvents 0 g.frame.fn g.frame.place es):=by simp only[runNT,bw,eX]
  refine⟨1,_,_,a',ae,kH,⟨_,w',bF,q,auu,rfl,Array.getElem?_setIfInBounds_self_of_lt (aY bd),⟨λj x hj hx=>?_,λj hj=>?_⟩,(hP.mono hK.tZ).own (λe h=>ab4 (he e h)),xA,(hF.at d).kept hK,hN.events (λe h=>BM (ak9 (he e h)))⟩,eV,hx⟩
  ·have aE:0≠j:=aa;rw[Array.getElem?_setIfInBounds_ne aE,Array.getElem?_map]at hx;obtain⟨z,hz,rfl⟩:=Option.map_eq_some_iff.1 hx;have hq:=hL.old j z hj hz;rw[woken_quitsD hq,Deaf_other t aa _ (λop aS=>by obtain⟨e,_,rfl⟩:=Conc.mem_ofEvents aS;rfl)];exact hq
  ·rw[Deaf_other t (g':=0) (by simp at hj;omega) _ (λop aS=>by obtain⟨e,_,rfl⟩:=Conc.mem_ofEvents aS;rfl)];exact hL.above j (aY hj)
 |_=>rw[hgo]at hs;exact hs.elim
def apg(kH:g.status=.running)(hX:ic P true g U X):
 ∀(M:Nat) (gs:Array Goroutine) (w:World) (sl:Option (Nat×Nat)) (t:Trace) (q:Nat->Nat) (auu:Nat->Prop),sumTo gs.size q<=M->gs[0]? =some g->Leavers P t gs q->Past (tQ auu) w.heap.size t->cQ auu w U->lV W w->pM (λ_=>False) t->
  ∃N m' t' g' ae,runNT P N (crowd gs w sl) t=(.next m',t')/\yN P W g' ae m' t'/\g'.status=.running/\X g' ae:=by
 intro M
 induction M with
 |zero=>
  intro gs w sl t q auu hM h0 hL hP hS hF hN
  have Dg:∀g∈gs,awake g:=by
   intro y hy;obtain⟨i,hi,rfl⟩:=Array.mem_iff_getElem.1 hy;rcases Nat.eq_zero_or_pos i with rfl|l7
   ·have:gs[0]=g:=by simpa[Array.getElem?_eq_getElem hi]using h0
    rw[this];exact awake_of (.inl kH)
   ·exact awake_of ((hL.old i _ l7 (Array.getElem?_eq_getElem hi)).status.elim .inl λx=>.inr (.inr x))
  obtain⟨i,y,d,bF,hi,hg,bw⟩:=crowd_pick (P:=P) (w:=w) (sl:=sl) Dg ⟨0,g,h0,kH⟩;rcases Nat.eq_zero_or_pos i with rfl|l7
  ·obtain rfl:y=g:=by rw[h0]at hi;exact(Option.some.inj hi).symm
   exact Vd hX h0 hL hP hS hF hN bw
  ·have hq:=hL.old i y l7 hi;have bd:i<gs.size:=(Array.getElem?_eq_some_iff.1 hi).1;have:=Go.ConcN.le_sumTo (f:=q) bd;have nK:q i=0:=aa;rw[nK]at hq;rw[hq.1]at hg;cases hg
 |succ M ih=>
  intro gs w sl t q auu hM h0 hL hP hS hF hN
  have Dg:∀g∈gs,awake g:=by
   intro y hy;obtain⟨i,hi,rfl⟩:=Array.mem_iff_getElem.1 hy;rcases Nat.eq_zero_or_pos i with rfl|l7
   ·have:gs[0]=g:=by simpa[Array.getElem?_eq_getElem hi]using h0
    rw[this];exact awake_of (.inl kH)
   ·exact awake_of ((hL.old i _ l7 (Array.getElem?_eq_getElem hi)).status.elim .inl λx=>.inr (.inr x))
  obtain⟨i,y,d,bF,hi,hg,bw⟩:=crowd_pick (P:=P) (w:=w) (sl:=sl) Dg ⟨0,g,h0,kH⟩;rcases Nat.eq_zero_or_pos i with rfl|l7
  ·obtain rfl:y=g:=by rw[h0]at hi;exact(Option.some.inj hi).symm
   exact Vd hX h0 hL hP hS hF hN bw
  ·have hq:=hL.old i y l7 hi;have qT:(i==0)=false:=by simp;omega
   have bd:i<gs.size:=(Array.getElem?_eq_some_iff.1 hi).1
   cases nK:q i with
   |zero=>rw[nK]at hq;rw[hq.1]at hg;cases hg
   |succ k=>
    rw[nK]at hq;rcases hq with⟨hf,_⟩|⟨_,g',es,hm,ma,bz⟩
    ·rw[hf]at hg;cases hg
    have eX:=runT_crowd_go (P:=P) (sl:=bF) (i:=i) hi (by rw[qT];exact ma (w.at d));have gU:((gs.map (woken P y g' (w.at d))).setIfInBounds i g').size=gs.size:=al
    have Lg:sumTo gs.size (upd q i k)+(k+1)=sumTo gs.size q+k:=by have:=sumTo_upd q k id bd;simpa[nK]using this
    have ua:((gs.map (woken P y g' (w.at d))).setIfInBounds i g')[0]? =some g:=by
     rw[Array.getElem?_setIfInBounds_ne aa,Array.getElem?_map,h0];simp only[Option.map_some,Option.some.injEq];unfold woken;split
     ·exact again_running _ (.inl kH)
     ·exact rfl
    have C8:Leavers P (t++MemOp.ofEvents i y.frame.fn y.frame.place es) ((gs.map (woken P y g' (w.at d))).setIfInBounds i g') (upd q i k):=by
     refine⟨λj x hj hx=>?_,λj hj=>?_⟩
     ·by_cases e:j=i
      ·subst e;rw[Array.getElem?_setIfInBounds_self_of_lt (aY bd)]at hx;obtain rfl:=Option.some.inj hx;rw[upd_same,Deaf_own];exact bz
      ·rw[Array.getElem?_setIfInBounds_ne (λz=>e z.symm),Array.getElem?_map]at hx;obtain⟨z,hz,rfl⟩:=Option.map_eq_some_iff.1 hx;have Si:=hL.old j z hj hz;rw[woken_quitsD Si,upd_ne q k e,Deaf_other t (λz=>e z.symm) _ (λop aS=>by obtain⟨e,_,rfl⟩:=Conc.mem_ofEvents aS;rfl)];exact Si
     ·rw[Deaf_other t (g':=i) (by simp at hj;omega) _ (λop aS=>by obtain⟨e,_,rfl⟩:=Conc.mem_ofEvents aS;rfl)];exact hL.above j (aY hj)
    obtain⟨N,m',t',sX,ae,hr,nA,eV,hx⟩:=ih ((gs.map (woken P y g' (w.at d))).setIfInBounds i g') (w.at d) bF (t++MemOp.ofEvents i y.frame.fn y.frame.place es) (upd q i k) auu (by rw[gU];omega) ua C8 (hP.mute aa hm) (hS.at d) (hF.at d) (hN.events λe he=>Mk (hm e he));exact⟨N+1,m',t',sX,ae,by simp only[runNT,bw,eX];exact hr,nA,eV,hx⟩
def solo(P:Program)(W:World):Env P where
 main:=true
 st:=yN P W
 iR:=by rintro g U J m T ⟨gs,w,sl,q,auu,rfl,h0,hL,hP,hS,hF,hN⟩ hle;exact⟨gs,w,sl,q,auu,rfl,h0,hL,hP,hS.iR hle,hF,hN⟩
 own:=by rintro g U m T X ⟨gs,w,sl,q,auu,rfl,h0,hL,hP,hS,hF,hN⟩ hr hX;exact apg hr hX (sumTo gs.size q) gs w sl T q auu (Nat.le_refl _) h0 hL hP hS hF hN
def ape(g:Goroutine)(W:World):yN P W g ⟨λb=>W.heap[b]?⟩ (crowd #[g] W none) #[]:=by
 refine⟨#[g],W,none,λ_=>0,λ_=>False,rfl,rfl,leavers_one P g,?_,⟨λh=>h,λ_ h=>h.elim,λ_ h=>h.elim⟩,⟨rfl,rfl,rfl⟩,λop aS=>by simp at aS⟩
 have e:tQ (λ_=>False)=λ_=>False:=by
  funext l;apply propext;constructor
  ·rintro⟨_,_,h⟩;exact h
  ·exactλh=>h.elim
 rw[e];exact past_nil.mono (Nat.zero_le _)
def apf{f:FuncId}{fn:Func}{Ik:Tmp}{args:Array Value}{R:Value->Hp->Prop}{Post:Value->World->Prop}(hi:P.inits.idxOf? f=none)(rQ:P.funcs[f]? =some fn)(eE:fn.results= #[.tmp Ik])(h:aw (solo P W) f args ⟨λb=>W.heap[b]?⟩ (λe ae=>∃v,e=.returned v/\R v ae))(agp:∀v ae auu w',R v ae->cQ auu w' ae->lV W w'->Post v w'):
 ∃N last o w' t',runNT P (N+1) (Conc.solo (G (Frame.enter P f args .normal) []) W) #[]=(.ended o w',t')/\runN P N (Conc.solo (G (Frame.enter P f args .normal) []) W)=.next last/\step P last=.ended o w'/\Conc.Good P Post last o w' t':=by
 obtain⟨N,m',T',g',ae,kH,⟨gs,w,sl,q,auu,rfl,h0,hL,hP,hS,hF,_⟩,e,fr,rfl,Bh,hl,v,rfl,hR⟩:=h [] _ _ (ape _ W);obtain⟨hm,hd,hk,CV,Ds,hr⟩:=hl;obtain rfl:CV=fn:=by rw[Bh,rQ]at Ds;exact(Option.some.inj Ds).symm
 have hv:fr.tmps.getD Ik undef=v:=by have:wpS P (results CV fr.tmps) (λv' gE=>v'=v/\gE=ae) (λ_ _=>False) ae:=hr;simp[results,eE,bt]at this;simpa using this
 have gP:∀w,stepG P true (G fr []) w=.ended (.done v) w #[]:=by
  intro w
  have hrt:(results CV fr.tmps).runT P w #[]=(.ok v w,#[]):=by rw[Sem.runT_eq,results_tmp eE,<-hv];simp[results,eE]
  simp only[G,stepG,hm,unwind,hd,Ds,hrt,doReturn,hk];simp[GStep.after,seen,Bh,hi]
 obtain⟨N',last,o,w',t',e1,e2,e3,e4⟩:=beside_ends (P:=P) (D:=λ_ _ _=>False) (Shun:=tQ auu) (B:=w.heap.size) (Post:=Post) (sl:=sl) (n:=0) (λ_ _ _ h=>h.elim) h0 hL hP
  (λw₁ Lt=>by
   obtain⟨d,rfl⟩:=Lt
   exact⟨rfl,v,#[],gP _,al,agp v ae auu _ hR (hS.at d) (hF.at d)⟩)
 rw[solo_eq_crowd];refine⟨N+N',last,o,w',t',?_,?_,e3,e4⟩
 ·rw[Nat.add_assoc,runNT_add,kH];exact e1
 ·rw[runN_add,<-runNT_fst P _ _ #[],kH];exact e2
end
section
open Go.Proofs
def lX:List PanicEntry:=[{v:=.iface 325 (.agg #[]),recovered:=false}]
variable {E:Env prog}{U:Hp}{b off:Nat}{c:List Value}{e:TypeId}{s:List UInt8}{n:Int}
def Ng(hb:U.f b=some (.cells c.toArray e (0,0)))(ho:c[off]? =some (.string (B s)))(h0:0<=n)(hn:n<=s.length):
 aw E 148 #[.pointer (some ⟨b,off,none⟩),.int .i64 n] U λe' ae=>e'=.returned (.string (B (s.take n.toNat)))/\ae=U.set b (.cells (c.set off (.string (B (s.drop n.toNat)))).toArray e):=by
 have bd:off<c.length:=(List.getElem?_eq_some_iff.1 ho).1;have DR:¬((s.length:Int)<n):=aa;have hl:(s.length-n.toNat)=(s.drop n.toNat).length:=al;refine aV func148 ntmps148 results148 λQ aD an aB=>?_;simp only[go_sem,seval,hb,ho,h0,hn,DR,bd];refine an aI ao ⟨?_,?_⟩
 ·simp only[go_sem,seval,Nat.sub_zero]
 ·simp only[hl,List.take_length]
def Vu{z:Nat×Nat}(hb:U.f b=some (.cells c.toArray e z))(ho:c[off]? =some (.string (B s)))(hn:(s.length:Int)<n):
 aw E 148 #[.pointer (some ⟨b,off,none⟩),.int .i64 n] U λe' ae=>e'=.panicked lX/\ae=U:=by
 refine aV func148 ntmps148 results148 λQ aD an aB=>?_;simp only[go_sem,seval,hb,ho,hn];exact aB _ _ _ _ ao ⟨rfl,rfl⟩
def num(l:List UInt8):Nat:=l.foldl (λn b=>n*256+b.toNat) 0
def TV(l:List UInt8)(b:UInt8):num (l++[b])=num l*256+b.toNat:=by simp[num]
def alf(l:List UInt8):∀a,l.foldl (λn b=>n*256+b.toNat) a<(a+1)*256^l.length:=by
 induction l with
 |nil=>intro a;simp
 |cons b l ih=>
  intro a;have h1:=ih (a*256+b.toNat);have h2:=b.toNat_lt;have h3:(a*256+b.toNat+1)*256^l.length<=((a+1)*256)*256^l.length:=Nat.mul_le_mul_right _ aa;simp only[List.foldl_cons,List.length_cons,Nat.pow_succ];have h4:(a+1)*(256^l.length*256)=((a+1)*256)*256^l.length:=by rw[Nat.mul_comm (256^l.length),Nat.mul_assoc]
  omega
def TU(l:List UInt8):num l<256^l.length:=by have:=alf l 0;simpa[num]using this
def alh(l:List UInt8)(i:Nat)(h:i<l.length):num (l.take (i+1))=num (l.take i)*256+(l.getD i 0).toNat:=by rw[List.take_succ_eq_append_getElem h,TV,List.getD_eq_getElem?_getD,List.getElem?_eq_getElem h,Option.getD_some]
def wrap64(h: -9223372036854775808<=n)(h':n<=9223372036854775807):IntKind.wrap .i64 n=n:=by rw[IntKind.wrap_i64];omega
def aoU{n:Nat}{m:Nat}(hm:m<256)(h:n<2^55):HE .i64 (B7 .i64 n 8) (IntKind.wrap .i64 (m:Int))=((n*256+m:Nat):Int):=by
 unfold HE B7;have e0:IntKind.i64.bits=64:=rfl
 have e1:((n:Int)*2^(min (8:Int).toNat IntKind.i64.bits))=((n*256:Nat):Int):=by rw[e0];simp
 rw[e1,wrap64 (n:=((n*256:Nat):Int)) aa aa,wrap64 (n:=(m:Int)) aa aa,e0];rw[BitVec.ofInt_natCast,BitVec.ofInt_natCast,BitVec.toNat_or,BitVec.toNat_ofNat,BitVec.toNat_ofNat,Nat.mod_eq_of_lt aa,Nat.mod_eq_of_lt aa];have:=Nat.shiftLeft_add_eq_or_of_lt (b:=m) (i:=8) aa n;rw[Nat.shiftLeft_eq]at this;rw[show n*256=n*2^8 by rfl,<-this];exact wrap64 aa aa
def Hr{o:Obj}(h:U.f b=none):U.le (U.set b o):=by
 intro x ox hx;have:x≠b:=by intro e;subst e;rw[h]at hx;cases hx
 rw[Hp.aM o this];exact hx
def EM{w:Nat}(hb:U.f b=some (.cells c.toArray e (0,0)))(ho:c[off]? =some (.string (B s)))(hw:w<=7)(hn:w<=s.length):
 aw E 147 #[.pointer (some ⟨b,off,none⟩),.int .i64 w] U λe' ae=>e'=.returned (.int .i64 (num (s.take w)))/\ae=U.set b (.cells (c.set off (.string (B (s.drop w)))).toArray e):=by
 refine aV func147 ntmps147 results147 λQ aD an aB=>?_;refine ag ?_;refine aZ (Ng hb ho aa aa) ?_;refine ag ?_;refineλnb pad z v8=>?_;refine ag ?_
 refine dh (λm I ds J=>ds=[]/\J=(U.set b (.cells (c.set off (.string (B (s.drop w)))).toArray e)).set nb (.cells (dF (s.take w)++List.replicate pad (Value.int .u8 0)).toArray 5 z)/\∃i,i<=w/\m=w-i/\
  I 12=.int .i64 i/\I 11=.int .i64 w/\I 10=.slice (some ⟨nb,0,none⟩) w (w+pad)/\I 4=.int .i64 (num (s.take i))) w ?_ ?_
 ·refine⟨rfl,?_,0,Nat.zero_le _,rfl,?_⟩
  ·exact au
  ·have hm:min w s.length=w:=aa;simp only[go_sem,seval,num,List.length_take,hm,List.foldl_nil,true_and]
   try rfl
 ·rintro m I ds J X ⟨rfl,rfl,i,hi,rfl,oZ,bR,bB,h4⟩ hX;rcases Nat.lt_or_ge i w with bd|xI
  ·have c1:(i:Int)<w:=aa;have c2:(0:Int)<=i:=aa;have c3:i<(s.take w).length:=by simp;omega
   simp only[go_sem,seval,oZ,bR,bB,h4,c1,c2,ZE c3];refine hX (w-(i+1)) _ _ _ _ aa ⟨rfl,rfl,i+1,aa,rfl,?_⟩ ao;have h1:=TU (s.take i);have h2:(s.take i).length=i:=by simp;omega
   have h3:(256:Nat)^i<=256^6:=Nat.pow_le_pow_right aa aa
   have h4:pP (s.take w) i=(((s.getD i 0).toNat:Nat):Int):=by simp only[pP,List.getD_eq_getElem?_getD,List.getElem?_take,bd,if_true]
   have h5:=(s.getD i 0).toNat_lt;rw[h2]at h1;refine bN bR bB h4 ?_;rw[aoU aa aa,alh s i aa,wrap64 aa aa];exact⟨rfl,rfl⟩
  ·have c1:¬(i:Int)<w:=aa;refine bN oZ bR c1 ?_;refine an aI ?_ ⟨?_,rfl⟩
   ·exact Hr v8
   ·have:i=w:=aa;subst this;exact aQ h4
def cJ{m:Int}(e:n=m:=by omega)(h: -9223372036854775808<=n:=by omega)(h1:n<=9223372036854775807:=by omega):IntKind.wrap .i64 n=m:=(wrap64 h h1).trans e
def fT(i:Nat)(h:i<=9223372036854775806:=by omega):IntKind.wrap .i64 ((i:Int)+1)=((i+1:Nat):Int):=cJ
end
end Go.Qw
