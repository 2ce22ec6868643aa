/- 20 -/
import Derived.Test.YtpiabknabfbfhaaGreatDoorRows
import Derived.Conc.LeavingOf
import Derived.LaidLaws
import Derived.LaidHandle
import Derived.Lay
import Derived.Lib.LaidTab
import Derived.Lib.LaidU8
import Derived.Lib.Props
import Derived.Test.YtpiabknabfbfhaaGreatDoorFramed19
set_option linter.all false
set_option maxRecDepth 100000
set_option maxHeartbeats 8000000
namespace Go.Qw
open Go Go.Conc Go.Proofs Go.Proofs.Tryz
section
open Go.Extern
abbrev hT(t:Nat):Value:=.pointer (some ⟨4,t,none⟩)
abbrev rT(t:Nat):Value:=.iface 222 (.agg #[hT t])
variable {Q:Value->Hp->Prop}{H:Halt->Hp->Prop}{U:Hp}{t:Nat}
def Xk:wpS prog (ReflectliteValue.unpack (.iface 93 (pV t))) Q H U=∀b,U.f b=none->Q (.agg #[hT 93,pV b,.int .u64 150]) (U.set b (.cells #[pV t] 93)):=ah
variable {i:Int}
def Xj:wpS prog (ReflectliteValue.unpack (.iface 51 (iV i))) Q H U=∀b,U.f b=none->Q (.agg #[hT 51,pV b,.int .u64 130]) (U.set b (.cells #[iV i] 51)):=ah
variable {a:Nat}
def Xc:wpS prog (ReflectliteValue.methodAny (ReflectliteValue.valueError "reflectlite.Value.Type" 0) (λt _ _ _=>ReflectliteType.toType t) #[.agg #[hT 93,pV a,.int .u64 150]]) Q H U=Q (rT 93) U:=ah
def WV:wpS prog (ReflectliteType.abiMethod (λt=>(λa:Nat=>Value.int IntKind.u8 (a:Int))<$>Rtype.kind t) #[hT 93]) Q H U=Q (.int .u8 22) U:=ah
def WU:wpS prog (ReflectliteType.abiMethod (λt=>(λa:Nat=>Value.int IntKind.u8 (a:Int))<$>Rtype.kind t) #[hT 51]) Q H U=Q (.int .u8 2) U:=ah
def WE:wpS prog (ReflectliteType.method ReflectliteType.elem #[.agg #[hT 93]]) Q H U=Q (rT 51) U:=ah
def WO:wpS prog (ReflectliteType.relation "Implements" ReflectliteType.implements_ #[.agg #[hT 51],rT 45]) Q H U=Q (.bool true) U:=ah
variable {v:Value}
def Xf:wpS prog (ReflectliteType.typeOf #[.iface 51 v]) Q H U=Q (rT 51) U:=ah
def Wz:wpS prog (ReflectliteType.relation "AssignableTo" ReflectliteType.assignableTo #[.agg #[hT 51],rT 51]) Q H U=Q (.bool true) U:=ah
variable {QM:FuncId×Value->Hp->Prop}
def wQ:wpS prog (method (prog.types.size+Made.depth) 222 (.agg #[hT t]) "Kind") QM H U=QM (319,hT t) U:=ah
def Fi:wpS prog (method (prog.types.size+Made.depth) 222 (.agg #[hT t]) "Elem") QM H U=QM (335,.agg #[hT t]) U:=ah
def Fj:wpS prog (method (prog.types.size+Made.depth) 222 (.agg #[hT t]) "Implements") QM H U=QM (336,.agg #[hT t]) U:=ah
def B2:wpS prog (method (prog.types.size+Made.depth) 222 (.agg #[hT t]) "AssignableTo") QM H U=QM (333,.agg #[hT t]) U:=ah
def Ac(z:Sem Value)(f:TypeId->Addr->Nat->Nat->Sem Value)(v:Value):
 ReflectliteValue.method z f #[v]=(do match<-ReflectliteValue.parts v with|none=>z|some (t,a,fl)=>f t a fl (fl % 32)):=rfl
variable {QP:Option (TypeId×Addr×Nat)->Hp->Prop}
def NY:wpS prog (ReflectliteValue.parts (.agg #[hT 93,pV a,.int .u64 150])) QP H U=QP (some (93,⟨a,0,none⟩,150)) U:=ah
def W7:wpS prog (ReflectliteValue.parts (.agg #[hT 51,pV a,.int .u64 386])) QP H U=QP (some (51,⟨a,0,none⟩,386)) U:=ah
def W6:wpS prog (ReflectliteValue.parts (.agg #[hT 51,pV a,.int .u64 130])) QP H U=QP (some (51,⟨a,0,none⟩,130)) U:=ah
variable {e:TypeId}
def wP{a t:TypeId}(hg:dD prog t=false)(ha:U.f a=some (.cells #[v] e (0,0))):iQ prog t ⟨a,0,none⟩ U=some v:=by unfold iQ;rw[if_neg (by rw[hg];simp)];simp[Hp.cell?,ha]
def WR(ha:U.f a=some (.cells #[pV t] e (0,0)))(h:Q (.bool false) U):wpS prog (ReflectliteValue.method (ReflectliteValue.valueError "reflectlite.Value.IsNil" 0) ReflectliteValue.isNil #[.agg #[hT 93,pV a,.int .u64 150]]) Q H U:=by rw[Ac,aF,NY];show wpS prog (ReflectliteValue.isNil 93 ⟨a,0,none⟩ 150 22) Q H U;unfold ReflectliteValue.isNil;rw[if_neg an,aF];refine rO (P:=prog) (t:=93) (a:=⟨a,0,none⟩) (U:=U) ah (qN (wP ah ha) ?_);exact h
def WI{QE:Option TypeId->Hp->Prop}:wpS prog (Rtype.elem? 93) QE H U=QE (some 51) U:=ah
def W1{p:Nat}:wpS prog (ReflectliteValue.mk 51 ⟨p,0,none⟩ ReflectliteValue.flagAddr) Q H U=Q (.agg #[hT 51,pV p,.int .u64 386]) U:=ah
def WM(ha:U.f a=some (.cells #[pV t] e (0,0)))(h:Q (.agg #[hT 51,pV t,.int .u64 386]) U):wpS prog (ReflectliteValue.method (ReflectliteValue.valueError "reflectlite.Value.Elem" 0) ReflectliteValue.elem #[.agg #[hT 93,pV a,.int .u64 150]]) Q H U:=by rw[Ac,aF,NY];show wpS prog (ReflectliteValue.elem 93 ⟨a,0,none⟩ 150 22) Q H U;unfold ReflectliteValue.elem;rw[if_neg an];rw[aF];refine rO (P:=prog) (t:=93) (a:=⟨a,0,none⟩) (U:=U) ah (qN (wP ah ha) ?_);rw[aF,WI];exact W1▸h
def Ix(v x:Value):ReflectliteValue.set #[v,x]=(do
 let(some (dst,a,fl),some (src,b,_)):=(<-ReflectliteValue.parts v,<-ReflectliteValue.parts x)
  |unsupported (.noEntry "extern/(internal/reflectlite.Value).Set.zeroValue")
 if fl/ReflectliteValue.flagAddr % 2==0 then unsupported (.noEntry "extern/(internal/reflectlite.Value).Set.unaddressable")
 let val<-loadVar src b
 if<-Rtype.directlyAssignable dst src then storeVar dst a val
 else if<-Rtype.implements dst src then
  if(<-Rtype.kind src)==20 then
   match val with
   | .nilIface=>unsupported (.noEntry "extern/reflectlite: a nil value of one interface type handed on as a value of another")
   |_=>storeVar dst a val
  else storeVar dst a (.iface src val)
 else panicString ("reflectlite.Set: value of type " ++(<-Rtype.spelt src)++ " is not assignable to type " ++(<-Rtype.spelt dst))
 pure (.tuple #[])):=rfl
def WC{QD:Bool->Hp->Prop}:wpS prog (Rtype.directlyAssignable 51 51) QD H U=QD true U:=ah
def Xa{b:Nat}{old:Value}{e1:TypeId}(hb:U.f b=some (.cells #[iV i] e1 (0,0)))(ht:U.f t=some (.cells [old].toArray 51 (0,0)))(h:Q (.tuple #[]) (U.set t (.cells [iV i].toArray 51 (0,0)))):
 wpS prog (ReflectliteValue.set #[.agg #[hT 51,pV t,.int .u64 386],.agg #[hT 51,pV b,.int .u64 130]]) Q H U:=by
 rw[Ix,aF,W7,aF,W6];simp only[];rw[if_neg an,aF];refine rO (P:=prog) (t:=51) (a:=⟨b,0,none⟩) (U:=U) ah (qN (wP ah hb) ?_);rw[aF,WC];simp only[if_true,aF];refine Hs ah ?_;unfold tp;simp only[ht];refine⟨trivial,ak,trivial,ah,?_⟩;exact h
variable {P:Program}{E:Env P}{I:av}{ds:List Deferred}{dst:Option Tmp}{ty:TypeId}{pos:String}{af:Array Edge}{g:Option (Nat×Bool)}{nx:av->List Deferred->Hp->Prop}{pn:List PanicEntry->Hp->Prop}
def jy{r:Operand}{name:String}{args:Array Operand}{cz:Array TypeId}{t:TypeId}{recv:Value}{f:FuncId}(hx:ai I r=.iface t v)(hm:∀(Q:FuncId×Value->Hp->Prop) (H:Halt->Hp->Prop),Q (f,recv) U->wpS P (method (P.types.size+Made.depth) t v name) Q H U)(h:jJ E f (#[recv]++args.map (ai I)) U dst I ds nx pn):aS E ⟨dst,.call ⟨.invoke r name,args,cz⟩,ty,pos,af,g⟩ I ds U nx pn:=by
 show wpOp E _ I ds U nx pn;unfold wpOp
 have e1:(#[Value.iface t v]++args.map (ai I)).extract 1 (#[Value.iface t v]++args.map (ai I)).size=args.map (ai I):=by apply Array.ext';simp[List.take_of_length_le]
 have e2:(#[Value.iface t v]++args.map (ai I))[0]? =some (.iface t v):=by rw[Array.getElem?_append_left ak];rfl
 simp only[execOp,resolve,hx,aF,bl,invoke,e2,callMethod,zK];refine hm _ _ ?_;rw[e1];exact h
def zM:Extern.find f61=some (λargs=>ReflectliteValue.unpack (args.getD 0 (.tuple #[]))):=ah
def HS:Extern.find f62=some (ReflectliteValue.methodAny (ReflectliteValue.valueError "reflectlite.Value.Type" 0) (λt _ _ _=>ReflectliteType.toType t)):=ah
def HT:Extern.find f63=some (ReflectliteValue.method (ReflectliteValue.valueError "reflectlite.Value.IsNil" 0) ReflectliteValue.isNil):=ah
def ES:Extern.find f113=some ReflectliteType.typeOf:=ah
def M6:Extern.find f114=some (ReflectliteValue.method (ReflectliteValue.valueError "reflectlite.Value.Elem" 0) ReflectliteValue.elem):=ah
def M7:Extern.find f115=some ReflectliteValue.set:=ah
def xZ:Extern.find f319=some (ReflectliteType.abiMethod λt=>(λa:Nat=>Value.int IntKind.u8 (a:Int))<$>Rtype.kind t):=ah
def ET:Extern.find f333=some (ReflectliteType.relation "AssignableTo" ReflectliteType.assignableTo):=ah
def HP:Extern.find f335=some (ReflectliteType.method ReflectliteType.elem):=ah
def HQ:Extern.find f336=some (ReflectliteType.relation "Implements" ReflectliteType.implements_):=ah
variable {E:Env prog}{old:Int}
def Wr{b:Nat}(hb:U.f b=some (.cells #[pV t] 93 (0,0)))(ht:U.f t=some (.cells [iV old].toArray 51 (0,0))):
 aw E 64 #[.iface 51 (iV i),.iface 93 (pV t),.agg #[hT 93,pV b,.int .u64 150],rT 51] U λe R=>e=.returned (.bool true)/\R=U.set t (.cells [iV i].toArray 51 (0,0)):=by
 refine eY func64 ntmps64 results64 rfl ak λQ aB al az=>?_;refine ag ?_;refineλb6 nV=>?_;have n6:∀{x o},U.f x=some o->¬x=b6:=λh e=>by subst e;rw[nV]at h;cases h
 refine ag ?_;refine cZ (λm I ds ae=>ds=[]/\I 0=.iface 51 (iV i)/\I 3=rT 51/\I 6=pV b6/\ae=U.set b6 (.cells [hT 93,pV b,.int .u64 150].toArray 140 (0,0))) 0 ?_ ?_
 ·refine⟨rfl,?_,?_,?_,rfl⟩<;>exact au
 ·rintro m I ds ae X ⟨rfl,h0,h3,h6,rfl⟩ hX;refine aH h0 ?_;refine dH func113 rfl ah ah ES ?_;rw[Xf];refine aH h3 ?_;refine jy (t:=222) (v:=.agg #[hT 51]) (recv:=.agg #[hT 51]) (f:=333) (name:= "AssignableTo") ?_ (λQ H h=>by rw[B2];exact h) ?_
  ·exact au
  refine ag ?_;refine dH func333 rfl ah ah ET ?_;rw[Wz];have l6:∀o,(U.set b6 o).f b6=some o:=λ_=>Hp.bD _ _;refine bq h6 l6 ?_;refine dH func114 rfl ah ah M6 ?_;refine WM (a:=b) (t:=t) (e:=93) ((Hp.ay (n6 hb)).trans hb) ?_;refine aH h0 ?_;refine dH func61 rfl ah ah zM ?_;show wpS prog (ReflectliteValue.unpack (.iface 51 (iV i))) _ _ _;rw[Xj];intro b9 mN
  have n9:∀{x:Nat} {o:Obj},U.f x=some o->¬x=b9:=by intro x o h e;subst e;have h1:(U.set b6 (.cells [hT 93,pV b,.int .u64 150].toArray 140 (0,0))).f x=some o:=(Hp.ay (n6 h)).trans h;have h2:(U.set b6 (.cells [hT 93,pV b,.int .u64 150].toArray 140 (0,0))).f x=none:=mN;rw[h1]at h2;cases h2
  refine ag ?_;refine dH func115 rfl ah ah M7 ?_;refine Xa (t:=t) (b:=b9) (i:=i) (old:=iV old) (e1:=51) aT ((Hp.ay (n9 ht)).trans ((Hp.ay (n6 ht)).trans ht)) ?_;refine ag ?_;refine al (R:=(U.set t (.cells [iV i].toArray 51 (0,0)))) aG ?_ ⟨by simp[up],rfl⟩;exact gG (λx p h=>(Hp.ay (n9 h)).trans ((Hp.ay (n6 h)).trans h)) _ _
def Wn{et:TypeId}(h0:U.f 0=some (.cells #[rT 45] et (0,0)))(ht:U.f t=some (.cells [iV old].toArray 51 (0,0))):
 aw E 41 #[.iface 51 (iV i),.iface 93 (pV t)] U λe R=>e=.returned (.bool true)/\R=U.set t (.cells [iV i].toArray 51 (0,0)):=by
 refine eY func41 ntmps41 results41 rfl ak λQ aB al az=>?_;refine ag ?_;refine dH func61 rfl ah ah zM ?_;show wpS prog (ReflectliteValue.unpack (.iface 93 (pV t))) _ _ _;rw[Xk];intro b hb;have nb:∀{x o},U.f x=some o->¬x=b:=λh e=>by subst e;rw[hb]at h;cases h
 refine ag ?_;refineλb5 jO=>?_;have s8:¬b5=b:=bh jO aT;rw[Hp.ay s8]at jO
 have n5:∀{x:Nat} {o:Obj},U.f x=some o->¬x=b5:=by intro x o h e;subst e;rw[jO]at h;cases h
 have l5:∀(H:Hp) (o:Obj),(H.set b5 o).f b5=some o:=λ_ _=>Hp.bD _ _;have lb:∀o o',((U.set b o).set b5 o').f b=some o:=λo o'=>(Hp.ay (λe=>s8 e.symm)).trans aT;have lo:∀{x:Nat} {p:Obj} o o',U.f x=some p->((U.set b o).set b5 o').f x=some p:=λo o' h=>(Hp.ay (n5 h)).trans ((Hp.ay (nb h)).trans h);refine aH l5 ?_;refine dH func62 rfl ah ah HS ?_;rw[Xc];refine ag ?_;refine jy (t:=222) (v:=.agg #[hT 93]) (recv:=hT 93) (f:=319) (name:= "Kind") ?_ (λQ H h=>by rw[wQ];exact h) ?_
 ·exact au
 refine ag ?_;refine dH func319 rfl ah ah xZ ?_;show wpS prog (ReflectliteType.abiMethod (λt=>(λa:Nat=>Value.int IntKind.u8 (a:Int))<$>Rtype.kind t) #[hT 93]) _ _ _;rw[WV];refine aH l5 ?_;rw[Hp.set_set];refine dH func63 rfl ah ah HT ?_;refine WR (a:=b) (t:=t) (e:=93) (lb _ _) ?_;refine ag ?_;refine jy (t:=222) (v:=.agg #[hT 93]) (recv:=.agg #[hT 93]) (f:=335) (name:= "Elem") ?_ (λQ H h=>by rw[Fi];exact h) ?_
 ·exact au
 refine ag ?_;refine dH func335 rfl ah ah HP ?_;rw[WE];refine ag ?_;refine jy (t:=222) (v:=.agg #[hT 51]) (recv:=hT 51) (f:=319) (name:= "Kind") ?_ (λQ H h=>by rw[wQ];exact h) ?_
 ·exact au
 refine ag ?_;refine dH func319 rfl ah ah xZ ?_;show wpS prog (ReflectliteType.abiMethod (λt=>(λa:Nat=>Value.int IntKind.u8 (a:Int))<$>Rtype.kind t) #[hT 51]) _ _ _;rw[WU];have l0:∀o o',((U.set b o).set b5 o').f 0=some (.cells #[rT 45] et (0,0)):=λo o'=>lo o o' h0;refine aH l0 ?_;refine jy (t:=222) (v:=.agg #[hT 51]) (recv:=.agg #[hT 51]) (f:=336) (name:= "Implements") ?_ (λQ H h=>by rw[Fj];exact h) ?_
 ·exact au
 refine ag ?_;refine dH func336 rfl ah ah HQ ?_;rw[WO];refine aH l5 ?_;refine bz (Wr (b:=b) (lb _ _) (lo _ _ ht)) ?_;refine ag ?_;refine al (R:=(U.set t (.cells [iV i].toArray 51 (0,0)))) aG ?_ ⟨by simp[up],rfl⟩;exact gG (λx p h=>lo _ _ h) _ _
def apB{et:TypeId}(h0:U.f 0=some (.cells #[rT 45] et (0,0))):
 aw E 26 #[.iface 51 (iV i)] U λe R=>e=.returned (iV i)/\R=U:=by
 refine eY func26 ntmps26 results26 rfl ak λQ aB al az=>?_;refine ag ?_;refineλt ht=>?_;refine ag ?_;have n0:¬0=t:=bh ht h0;refine bz (Wn (i:=i) (old:=0) ((Hp.ay n0).trans h0) aT) ?_;have lt:∀(H:Hp) (o:Obj),(H.set t o).f t=some o:=λ_ _=>Hp.bD _ _;simp only[go_sem,seval,lt];refine al (R:=U) aG ?_ ⟨by simp[up],rfl⟩;intro x p h;have nx:¬x=t:=bh h ht;rw[Hp.ay nx]
 first|exact h|(rw[Hp.ay nx];exact h)
end
def XC(i n:Nat):bp (i+1) n=(n/256^i).toUInt8::bp i n:=by unfold bp;rw[List.range_succ_eq_map,List.map_cons,List.map_map];congr 1;apply List.map_congr_left;intro j hj;simp only[Function.comp_def];have:i+1-1-(j+1)=i-1-j:=aa;rw[this]
variable {P:Program}{I:av}{ds:List Deferred}{U:Hp}{dst:Option Tmp}{ty:TypeId}{pos:String}{af:Array Edge}{g:Option (Nat×Bool)}{nx:av->List Deferred->Hp->Prop}{pn:List PanicEntry->Hp->Prop}{E:Env P}{b:Nat}{pad:List Value}
def YU{s d e:TypeId}{x:Operand}{cap:Nat}{k:Nat}{et:TypeId}(hs:P.underlying s=some (.slice e))(hd:P.underlying d=some .string)(he:P.underlying e=some (.int .u8))(hx:ai I x=.slice (some ⟨b,0,none⟩) 1 cap)(hb:U.f b=some (.cells (.int .u8 k::pad).toArray et (0,0)))(h:nx (aA I dst (.string (B [UInt8.ofNat k]))) ds U):wpOp E ⟨dst,.convert s d x,ty,pos,af,g⟩ I ds U nx pn:=by
 unfold wpOp;simp only[execOp,convert,aF,eg,hs,hd,hx,he,Conv.bytesToString,loadCells];refine M0 (a:=⟨b,0,none⟩) hb rfl 1 0 #[] _ ak ?_
 have e1:(#[]++(.int .u8 (k:Int)::pad).toArray.extract ((⟨b,0,none⟩:Addr).off+0) ((⟨b,0,none⟩:Addr).off+0+1):Array Value)= #[.int .u8 (k:Int)]:=by apply Array.ext';simp
 rw[e1];exact h
variable {E:Env prog}
def qP{n w:Nat}(hw:w<=8)(hn:n<9223372036854775808):aw E 20 #[iV n,iV w] U λe R=>e=.returned (sV (bp w n))/\R=U:=by
 refine eY func20 ntmps20 results20 rfl ak λQ aB al az=>?_;refine ag ?_;refine cZ (λm I ds ae=>ds=[]/\U.le ae/\I 1=iV w/\∃i:Nat,i+m=w/\I 0=iV ((n/256^i:Nat):Int)/\I 5=sV (bp i n)/\I 6=iV i) w ?_ ?_
 ·refine⟨rfl,Hp.le_refl _,?_,0,ak,?_,?_,?_⟩
  ·exact au
  ·simp only[go_sem,seval];simp
  ·exact au
  ·exact au
 ·rintro m I ds ae X ⟨rfl,hle,h1,i,AP,h0,h5,h6⟩ hX
  cases m with
  |zero=>
   have c0:¬(i:Int)<w:=aa;obtain rfl:i=w:=aa;refine fA h1 h5 h6 c0 ?_;exact al (R:=U) aG hle ⟨by simp[up],rfl⟩
  |succ m=>
   have c0:(i:Int)<w:=aa;have wU:IntKind.u8.wrap ((n/256^i:Nat):Int)=(((n/256^i) % 256:Nat):Int):=by rw[IntKind.wrap_u8];omega
   have wS:xS .i64 ((n/256^i:Nat):Int) 8=((n/256^(i+1):Nat):Int):=by unfold xS;have e1:(8:Int).toNat=8:=rfl;have e2:min 8 IntKind.i64.bits=8:=rfl;rw[e1,e2,Nat.pow_succ,<-Nat.div_div_eq_div_mul,Int.natCast_ediv,show(2:Int)^8=((256:Nat):Int)from rfl,Int.fdiv_eq_ediv_of_nonneg _ aa];simp only[Int.natCast_ediv]
   have w1:=fM i;refine ln h0 h1 h6 c0 wU ?_;refineλb hb=>?_;have nZ:∀o,U.le (ae.set b o):=λo x p h=>by rw[Hp.ay (bh hb (hle _ _ h))];exact hle _ _ h
   refine ag ?_;refine YU (e:=5) (b:=b) (cap:=1) (k:=(n/256^i) % 256) (pad:=[]) (et:=5) ah ah ah ?_ aT ?_
   ·exact au
   have lb:1+(bp i n).length<=9223372036854775807:=by rw[cB];omega
   have eB:[UInt8.ofNat ((n/256^i) % 256)]++bp i n=bp (i+1) n:=by
    rw[XC]
    have:UInt8.ofNat ((n/256^i) % 256)=(n/256^i).toUInt8:=by apply UInt8.toNat_inj.1;simp
    rw[this];rfl
   simp only[go_sem,seval,h0,h5,h6,lb,eB,wS,w1];refine hX m _ _ _ _ aa ⟨rfl,nZ _,?_,i+1,aa,?_,?_,?_⟩ ao
   ·exact aP h1
   ·exact au
   ·exact au
   ·exact au
def GV{s:List UInt8}(hs:s.length<=1000000):aw E 19 #[sV s] U λe R=>e=.returned (sV (bp 1 s.length++s))/\R=U:=by
 refine eY func19 ntmps19 results19 rfl ak λQ aB al az=>?_;refine ag ?_;refine bz (qP (n:=s.length) (w:=1) an aa) ?_;have l1:(bp 1 s.length).length+s.length<=9223372036854775807:=by rw[cB];omega
 refine aH l1 ?_;exact al aG ao ⟨by simp[up],rfl⟩
variable {ch:Nat}{p:List UInt8}
def aiS{kind:Nat}(hk:kind<1000)(hc:ch<100000)(hp:p.length<=1000000):aw E 21 #[iV kind,iV ch,sV p] U λe R=>e=.returned (sV (lZ kind ch p))/\R=U:=by
 refine eY func21 ntmps21 results21 rfl ak λQ aB al az=>?_;refine ag ?_;refine bz (qP (n:=kind) (w:=1) an aa) ?_;refine ag ?_;refine bz (qP (n:=ch) (w:=2) an aa) ?_;refine ag ?_;refine bz (qP (n:=p.length) (w:=4) an aa) ?_;have l1:(bp 1 kind).length+(bp 2 ch).length<=9223372036854775807:=by simp only[cB];omega
 have l2:(bp 1 kind++bp 2 ch).length+(bp 4 p.length).length<=9223372036854775807:=by simp only[List.length_append,cB];omega
 have l3:(bp 1 kind++bp 2 ch++bp 4 p.length).length+p.length<=9223372036854775807:=by simp only[List.length_append,cB];omega
 have l4:(bp 1 kind++bp 2 ch++bp 4 p.length++p).length+1<=9223372036854775807:=by simp only[List.length_append,cB];omega
 refine fA l1 l2 l3 l4 ?_;exact al aG ao ⟨by simp[up,lZ],rfl⟩
variable {cl me:Nat}
def aiq(hc:ch<100000)(h1:cl<100000)(h2:me<100000)(hp:p.length<=100000):aw E 18 #[iV ch,iV cl,iV me,sV p] U λe R=>e=.returned (sV (lZ 1 ch (bp 2 cl++bp 2 me++p)))/\R=U:=by
 refine eY func18 ntmps18 results18 rfl ak λQ aB al az=>?_;refine ag ?_;refine bz (qP (n:=cl) (w:=2) an aa) ?_;refine ag ?_;refine bz (qP (n:=me) (w:=2) an aa) ?_;have l1:(bp 2 cl).length+(bp 2 me).length<=9223372036854775807:=by simp only[cB];omega
 have l2:(bp 2 cl++bp 2 me).length+p.length<=9223372036854775807:=by simp only[List.length_append,cB];omega
 refine bq l1 l2 ?_;refine bz (aiS (kind:=1) an hc (by simp only[List.length_append,cB];omega)) ?_;refine ag ?_;exact al aG ao ⟨by simp[up],rfl⟩
def j7(ch cl me:Nat)(p:List UInt8):List UInt8:=lZ 1 ch (bp 2 cl++bp 2 me++p)
def B5(ch cl me:Nat)(p:List UInt8):(j7 ch cl me p).length=p.length+12:=by simp[j7,qy,cB];omega
def pQ(h:Nat):List UInt8:=pK++j7 0 10 31 (bp 2 4++bp 4 64++bp 2 h)++j7 0 10 40 (bp 1 1++[47])++j7 1 20 10 (bp 1 0)++j7 1 50 10 (bp 1 1++[113])
def zm(hc:ch<100000)(h1:cl<100000)(h2:me<100000)(hp:p.length<=100000):aw E 18 #[iV ch,iV cl,iV me,sV p] U λe R=>e=.returned (sV (j7 ch cl me p))/\R=U:=aiq hc h1 h2 hp
def aeF{h:Nat}(hh:h<=1000):aw E 38 #[iV h] U λe R=>e=.returned (sV (pQ h))/\R=U:=by
 refine eY func38 ntmps38 results38 rfl ak λQ aB al az=>?_;refine ag ?_;refine bz (qP (n:=4) (w:=2) an an) ?_;refine ag ?_;refine bz (qP (n:=64) (w:=4) an an) ?_;refine ag ?_;refine bz (qP (n:=h) (w:=2) an aa) ?_;have l1:(bp 2 4).length+(bp 4 64).length<=9223372036854775807:=an;have l2:(bp 2 4++bp 4 64).length+(bp 2 h).length<=9223372036854775807:=by simp only[List.length_append,cB];omega
 refine bq l1 l2 ?_;refine bz (zm (ch:=0) (cl:=10) (me:=31) an an an (by simp only[List.length_append,cB];omega)) ?_;have la:(j7 0 10 31 (bp 2 4++bp 4 64++bp 2 h)).length=20:=by rw[B5];simp[cB]
 have lb:(j7 0 10 40 (bp 1 1++[47])).length=14:=by rw[B5];simp[cB]
 have lc:(j7 1 20 10 (bp 1 0)).length=13:=by rw[B5];simp[cB]
 have ld:(j7 1 50 10 (bp 1 1++[113])).length=14:=by rw[B5];simp[cB]
 refine aH la ?_;refine bz (GV (s:=[47]) an) ?_;refine ag ?_;refine bz (zm (ch:=0) (cl:=10) (me:=40) (p:=bp 1 1++[47]) an an an an) ?_;refine bq la lb ?_;refine bz (GV (s:=[]) an) ?_;refine ag ?_;refine bz (zm (ch:=1) (cl:=20) (me:=10) (p:=bp 1 0) an an an an) ?_;simp only[go_sem,seval,la,lb,lc,List.length_append];refine bz (GV (s:=[113]) an) ?_;refine ag ?_;refine bz (zm (ch:=1) (cl:=50) (me:=10) (p:=bp 1 1++[113]) an an an an) ?_;simp only[go_sem,seval,la,lb,lc,ld,List.length_append];exact al aG ao ⟨by simp[up,pQ,pK],rfl⟩
def XE(w n:Nat):bp (w+1) n=bp w (n/256)++[n.toUInt8]:=by
 unfold bp;rw[List.range_succ,List.map_append];congr 1
 ·apply List.map_congr_left;intro j hj;have hj:j<w:=aV hj;have e:w+1-1-j=(w-1-j)+1:=aa;rw[e,Nat.pow_succ,Nat.mul_comm,<-Nat.div_div_eq_div_mul]
 ·simp
def akq(w:Nat):∀n,n<256^w->num (bp w n)=n:=by
 induction w with
 |zero=>intro n h;simp at h;subst h;rfl
 |succ w ih=>
  intro n h;rw[XE,Th,ih (n/256) (by rw[Nat.pow_succ]at h;omega)];simp;omega
abbrev nF(W:World)(φ:Hp):Env prog:=(solo prog W).frame φ
def abK(F:FS){W:World}{φ:Hp}{a:F.γ}{ch:List UInt8}(fU:F.ou a ch)(hI:F.atz a U)(hp:F.ph a≠5)(hn:ch.length<=4611686018427387904):
 aw (nF W φ) 40 #[pV F.bc,.string (B ch)] U λe R=>e=.returned (.tuple #[])/\∃a',F.Loop (F.add a ch) a'/\F.atz a' R:=by
 rintro cs m T ⟨d,hm⟩;obtain⟨N,m',T',g',R,h1,h2,e,fr,rfl,hf,hl,rfl,a',ae,k1,k2,k3,rfl⟩:=abJ F (W:=W) (φ0:=φ) fU hI d hp hn cs m T hm;refine⟨N,m',T',_,ae,h1,⟨k3,h2⟩,_,fr,rfl,hf,?_,rfl,a',k1,k2⟩;obtain⟨a1,a2,a3,fn,a4,a5⟩:=hl;refine⟨a1,a2,a3,fn,a4,?_⟩;rw[hf,func40]at a4;obtain rfl:=Option.some.inj a4;simp[results,bl]at a5|-
section
open Go.ChangeShapes Go.WideShapes Go.ChangeAt Go.RowKit Go.Lib
open Go.Proofs.YtpiabknabfbfhaaGreatDoor
def s5:List (String×DataW Unit):=[("errors.errorType",Rows.laid_errors_errorType),("unicode.properties",Rows.laid_unicode_properties),("unicode.Digit",Rows.laid_unicode_Digit),("unicode.Letter",Rows.laid_unicode_Letter)]
def uv:List (String×DataW Unit):=[("unicode.properties",Rows.laid_unicode_properties),("unicode.Digit",Rows.laid_unicode_Digit),("unicode.Letter",Rows.laid_unicode_Letter)]
def Sn:(s5.filter λx=>x.2.handleName?.isNone)=uv:=ah
def Le:(s5.filter λx=>x.2.handleName?.isSome)=[("errors.errorType",Rows.laid_errors_errorType)]:=ah
def own:ownKnob prog.godebug=none:=ah
def acx:prog.globalNamed "errors.errorType" =some 0:=ah
def PW:prog.globalNamed "unicode.properties" =some 1:=ah
def anB:(prog.cutTypes.find? (·.1== "internal/reflectlite.rtype")).map (·.2)=some 222:=ah
def apL:prog.types.size=437:=ah
def ak5:((List.range 437).filter λt=>prog.rowNamed t [101,114,114,111,114])=[45]:=ah
def ad3:typeHandle prog 45=hT 45:=ah
def alQ:Rows.laid_unicode_properties (H:=Unit)=tabData .u8 propertiesTab:=ah
variable {W:World}
def aio(h:laidMetH prog s5 W):W.var? prog "errors.errorType" =some #[rT 45]:=by unfold laidMetH at h;rw[Le]at h;obtain⟨name,u,ty,e1,e2,e3,e4,e5⟩:=h.2 _ (List.mem_singleton.2 rfl);have en:name=[101,114,114,111,114]:=(Option.some.inj e1).symm;subst en;obtain rfl:=Option.some.inj (anB.symm.trans e2);have hm:ty∈(List.range 437).filter λt=>prog.rowNamed t [101,114,114,111,114]:=List.mem_filter.2 ⟨List.mem_range.2 (by rw[<-apL];exact e3),e4⟩;rw[ak5]at hm;obtain rfl:=List.mem_singleton.1 hm;rw[ad3]at e5;exact e5
def aip(h:laidMetH prog s5 W):TabIs prog W "unicode.properties" .u8 propertiesTab:=by unfold laidMetH at h;rw[Le,Sn]at h;have h1:=h.1;unfold uv at h1;rw[alQ]at h1;exact tabIs_of_head (t:=396) (e:=5) (n:=256) PW ah ah ah ah ah h1
def aqV:((begin prog (λ_ _=>0) default).world.heap[0]?).bind Obj.row?=some (#[.nilIface],143):=ah
def aqW:∃z,((begin prog (λ_ _=>0) default).world.heap[1]?).bind Obj.row?=some (z,396):=⟨(((begin prog (λ_ _=>0) default).world.heap[1]?).bind Obj.row?).elim #[] (·.1),ah⟩
def So(hs:W.ShapedOpen prog)(h:laidMetH prog s5 W):
 W.heap[0]? =some (.cells #[rT 45] 143 (0,0))/\W.heap[1]? =some (.cells (propertiesTab.map λz=>Value.int .u8 z).toArray 396 (0,0)):=by
 constructor
 ·obtain⟨cs,h1,_,_⟩:=hs.1 0 _ _ (of_decide_eq_true ah) aqV;have h2:=aio h;unfold World.var? at h2;rw[acx]at h2;simp only[Option.bind_some,h1]at h2;rw[h1,Option.some.inj h2]
 ·obtain⟨z,hz⟩:=aqW;obtain⟨cs,h1,_,_⟩:=hs.1 1 _ _ (of_decide_eq_true ah) hz;have h2:=aip h;unfold TabIs World.var? at h2;rw[PW]at h2;simp only[Option.bind_some,h1]at h2;rw[h1,Option.some.inj h2]
noncomputable def Qz(os:Os):World:=
 let w0:=World.holding prog os ⟨#[],#[],[]⟩
 {w0 with heap:=w0.heap.modify 0 λ
  | .cells _ t frozen=>.cells #[rT 45] t frozen
  |o=>o}
noncomputable def DL(os:Os):World:=(Qz os).layVars prog uv
def aim(os:Os):(DL os).os=os:=World.layVars_os _ _ _
def Ld:(uv.filter λx=>(uv.map (·.1)).contains x.1)=uv:=ah
def aik:(uv.filter λx=> !(uv.map (·.1)).contains x.1)=[]:=ah
def ail(os:Os)(args:Array Value):laidMetH prog s5 ((DL os).forCall (λ_ _=>0) ⟨#[],args,[]⟩).memory:=by
 refine laidMetH_of_parts ?_ ?_
 ·rw[Sn];have h:laidMet prog uv (DL os):=laidMet_layVars (w0:=Qz os) (uv.map (·.1)) [] (by rw[Ld];rfl) (by rw[Ld];kernel_rfl) (by rw[Ld];kernel_rfl) (by rw[aik];exact LaidIn.none);exact h.of_heap (by simp[World.memory,World.forCall,Input.heap])
 ·rw[Le]
  kernel_rfl
def ain(os:Os)(args:Array Value):((DL os).forCall (λ_ _=>0) ⟨#[],args,[]⟩).Shaped prog:=World.shaped_of_ZipB ah ah
variable {f:FuncId}{fn:Func}
def Uc{HC:Tmp}{args:Array Value}{v0:Value}(D:Nat->Prop)(hi:prog.inits.idxOf? f=none)(rD:prog.funcs[f]? =some fn)(fC:fn.results= #[.tmp HC])(h:∀φ,aw (nF W φ) f args ((⟨λb=>W.heap[b]?⟩:Hp).only D) λe R=>e=.returned v0/\∀b,D b->R.f b=W.heap[b]?):
 ∃N last o w' t',runNT prog (N+1) (Conc.solo (G (Frame.enter prog f args .normal) []) W) #[]=(.ended o w',t')/\runN prog N (Conc.solo (G (Frame.enter prog f args .normal) []) W)=.next last/\step prog last=.ended o w'/\
  Conc.Good prog (λv w'=>v=v0/\Below W.heap.size W w') last o w' t':=by
 have hd:=Hp.ak8 (⟨λb=>W.heap[b]?⟩:Hp) D;have h1:=(h _).ju hd;rw[Hp.alb]at h1;refine aop (atA:=λv ae=>v=v0/\(⟨λb=>W.heap[b]?⟩:Hp).le ae) hi rD fC (h1.mono ?_) ?_
 ·rintro e R ⟨ae,jv,rfl,rfl,hk⟩;refine⟨v0,rfl,rfl,λb o hb=>?_⟩;by_cases hD:D b
  ·exact Hp.iC ((hk b hD).trans hb)
  ·refine Hp.uy jv b o (Hp.Ej (D:=λb=>¬D b) hb hD)
 ·rintro v ae J w' ⟨rfl,hle⟩ hs hf
  have hb:∀k,k<W.heap.size->w'.heap[k]? =W.heap[k]? :=by intro k hk;obtain⟨o,ho⟩:∃o,W.heap[k]? =some o:=⟨_,Array.getElem?_eq_getElem hk⟩;rw[ho];exact hs.heap (hle k o ho)
  refine⟨rfl,hf.os,hf.tape,hf.output,?_,hb⟩;by_cases h0:W.heap.size=0
  ·omega
  ·have:=hb (W.heap.size-1) aa;have aZ:W.heap.size-1<W.heap.size:=aa;rw[Array.getElem?_eq_getElem aZ]at this;have:=(Array.getElem?_eq_some_iff.1 this).1;omega
def aiD{H:Type}{enc:TypeId×Value->H}{a:Assume}{C:Checked}{os:Os}{s:ChangeSpec}{conds:List PathCond}{apart fresh handsOn again:Bool}{X:World->Array Value->Prop}(hX:∀(w w':World) (args:Array Value),w.heap=w'.heap->X w args->X w' args)(own:ownKnob C.prog.godebug=none)(started:os.Started)(rD:C.prog.funcs[f]? =some fn)(witness:∃(w:World) (tape:Tape) (i:Input),w.os=os/\(w.forCall tape i).Shaped C.prog/\i.vars=[]/\Input.okWide C.prog (w.forCall tape i) .any w.heap.size f i/\
  ((s.pre enc C.prog fn conds apart (w.forCall tape i).memory i.args/\X (w.forCall tape i).memory i.args)/\sizedMet enc C.prog fn (OpenSpec.ofChange s) apart (w.forCall tape i).memory i.args)/\a.holds C.prog (lone (Frame.enter C.prog f i.args .normal) [] (w.forCall tape i)))(runs:∀(W:World) (base:Nat) (args:Array Value) (ds gs:List (DataW H)) (before:List MemPlace),W.ShapedOpen C.prog->
  (∀(j:Nat) t v,fn.params[j]? =some t->args[j]? =some v->Value.okWide C.prog W .any base t v)->
  DataW.Whole enc C.prog fn.params.toList s.vars apart W args.toList ds gs before->
  (DataW.weightsEach C.prog (fn.params.toList++s.plain.varTypes C.prog) (ds++gs)).all (·<=reachBytes)=true->X W args->
  ∃M last o w' t',runNT C.prog (M+1) (Conc.solo (G (Frame.enter C.prog f args .normal) []) W) #[]=(.ended o w',t')/\runN C.prog M (Conc.solo (G (Frame.enter C.prog f args .normal) []) W)=.next last/\
   step C.prog last=.ended o w'/\Conc.Good C.prog (λv W'=>s.post enc C.prog fn apart fresh handsOn again W args v W') last o w' t'):
 ReturnsInLeavingWide a C os f .any (λw args=>(s.pre enc C.prog fn conds apart w args/\X w args)/\sizedMet enc C.prog fn (OpenSpec.ofChange s) apart w args) (s.post enc C.prog fn apart fresh handsOn again):=by
 refine returnsInLeavingWide_of_good own started witness ?_;intro w tape i _ xt _ fU afJ _;obtain⟨_,_,_,Cq,C3,_,_,_,_,dr⟩:=fU;obtain rfl:Cq=fn:=Option.some.inj (C3.symm.trans rD);obtain⟨⟨⟨ds,gs,before,hw,_⟩,hx⟩,hz⟩:=afJ;have jj:=DataW.Whole.of_heap (w':=w.forCall tape i) (by rfl) hw;obtain⟨M,last,o,w',t',h1,h2,h3,h4⟩:=runs (w.forCall tape i) w.heap.size i.args ds gs before xt dr jj (hz.weights hw) (hX _ _ _ (by rfl) hx);exact⟨M,last,o,w',t',h1,h2,h3,h4.mono λv hp=>ChangeSpec.post_blind hp⟩
end
structure aQ where
 seq:Int
 key:List UInt8
 body:List UInt8
 again:Bool
def aQ.vals(m:aQ):List Value:=[iV m.seq,sV m.key,sV m.body,.bool m.again]
def aQ.v(m:aQ):Value:=.agg #[iV m.seq,sV m.key,sV m.body,.bool m.again]
def bd(ms:List aQ):List Value:=ms.flatMap aQ.vals
def pq(ms:List aQ):(bd ms).length=4*ms.length:=by
 induction ms with
 |nil=>rfl
 |cons m ms ih=>simp only[bd,List.flatMap_cons,List.length_append,List.length_cons]at ih|-;rw[ih];simp[aQ.vals];omega
inductive gz (U:Hp) (ms:List aQ):Value->Prop
 |none:ms=[]->gz U ms (.slice Option.none 0 0)
 |at(a:Nat) (pre pad:List Value) (c:Nat):ms.length<=c->4*(c-ms.length)<=pad.length->U.f a=some (.cells (pre++bd ms++pad).toArray 193 (0,0))->gz U ms (.slice (some ⟨a,pre.length,Option.none⟩) ms.length c)
variable {R:Hp}{ms:List aQ}{v:Value}
def gz.le(h:gz U ms v)(k:U.le R):gz R ms v:=by
 cases h with
 |none h=>exact .none h
 |«at»a pre pad c h1 h2 h3=>exact .at a pre pad c h1 h2 (k _ _ h3)
def T9{a u:Tmp}{t:TypeId}(ha:I a=pV b)(ht:dk P t=true)(h:iQ P t ⟨b,0,none⟩ R=some v):lG P #[.cell a t,.tmp u] I R (.tuple #[v,I u]):=by unfold lG;have h2:=rO (Q:=λv' ae=>v'=v/\ae=R) (H:=λ_ _=>False) ht (qN h ⟨rfl,rfl⟩);simp only[aF,bl,asAddr];simp[ha];have e:((λx=>#[x,I u])<$>loadVar t ⟨b,0,none⟩:Sem (Array Value))=(loadVar t ⟨b,0,none⟩>>=λx=>pure #[x,I u]):=rfl;rw[e,aF];refine M3 ?_ (λ_ _ h=>h) _ _ h2;rintro v' ae ⟨rfl,rfl⟩;simp[bl]
def ao4:cC prog 193=4:=ah
def V3:dD prog 193=true:=ah
variable {pre:List Value}{m:aQ}{e:Nat}
def GQ(h:R.f b=some (.cells (pre++m.vals++pad).toArray e (0,0))):iQ prog 193 ⟨b,pre.length,none⟩ R=some m.v:=by unfold iQ;rw[if_pos V3,ao4];simp[cellsOf,h,aQ.vals,aQ.v]
def LX{x:Option Obj}{o:Nat}{k:Value->Prop}(hx:x=some (.cells (pre++m.vals++pad).toArray e (0,0)))(ho:o=pre.length)(hk:k m.v):tb (cellsIn o 4 k) x:=by
 subst hx ho;rw[Tq,Zz];refine⟨by simp[aQ.vals],?_⟩;have:((pre++m.vals++pad).toArray.extract pre.length (pre.length+4))= #[iV m.seq,sV m.key,sV m.body,.bool m.again]:=by simp[aQ.vals]
 rw[this];exact hk
variable {q:Nat}{name:List UInt8}{held last:Int}{cons:Value}
def ajO{c:Nat}{b:Option Addr}(hq:U.f q=some (fy name (.slice b 0 c) held last cons)):
 aw E 90 #[pV q] U λe R=>e=.returned (.tuple #[(⟨0,[],[],false⟩:aQ).v,.bool false])/\U.le R:=by
 refine aX func90 ntmps90 results90 λQ aB al az=>?_;simp only[fy]at hq;refine ag ?_;refineλb2 dh=>?_;have nq:¬q=b2:=bh dh hq;have gB:∀o,(U.set b2 o).f q=some (.cells [sV name,.slice b 0 c,iV held,iV last,cons].toArray 81 (0,0)):=λo=>(Hp.ay nq).trans hq;have z0:((0:Nat):Int)=0:=rfl;refine bq gB z0 ?_;have hle:∀o,U.le (U.set b2 o):=λo x p h=>by rw[Hp.ay (bh dh h)];exact h
 refine al (T9 (b:=b2) (v:=(⟨0,[],[],false⟩:aQ).v) (by simp[up]) Sb (GQ (pre:=[]) (pad:=[]) aT)) ao ⟨by simp[up],hle _⟩
def ajN{rv:Value}(hq:U.f q=some (fy name rv held last cons))(hm:gz U (m::ms) rv)(hn:ms.length<=1000):
 aw E 90 #[pV q] U λe R=>e=.returned (.tuple #[m.v,.bool true])/\∃iU,gz U ms iU/\(U.set q (fy name iU held last cons)).le R/\∃(a off Tr n n' c c':Nat),rv=.slice (some ⟨a,off,none⟩) n c/\iU=.slice (some ⟨a,Tr,none⟩) n' c':=by
 refine aX func90 ntmps90 results90 λQ aB al az=>?_;simp only[fy]at hq
 cases hm with
 |none h=>cases h
 |«at»a pre pad c h1 h2 h3=>
 obtain⟨n,xp⟩:∃n,n=(m::ms).length:=⟨_,rfl⟩;obtain⟨o,ho⟩:∃o,o=pre.length:=⟨_,rfl⟩;rw[<-xp,<-ho]at hq;have xr:n=ms.length+1:=by rw[xp];rfl
 refine ag ?_;refineλb2 dh=>?_;have nq:¬q=b2:=bh dh hq;have na:¬a=b2:=bh dh h3;have naq:¬a=q:=λe=>by subst e;rw[hq]at h3;simp at h3
 have gB:∀x,(U.set b2 x).f q=some (.cells [sV name,.slice (some ⟨a,o,none⟩) n c,iV held,iV last,cons].toArray 81 (0,0)):=λx=>(Hp.ay nq).trans hq;have z0:¬((n:Nat):Int)=0:=aa
 have lL:iQ prog 193 ⟨a,o,none⟩ U=some m.v:=by rw[ho];exact GQ (e:=193) (pad:=bd ms++pad) (by rw[h3];simp[bd])
 have fI:∀x,iQ prog 193 ⟨a,o,none⟩ (U.set b2 x)=some m.v:=λx=>by rw[ho];exact GQ (e:=193) (pad:=bd ms++pad) (by rw[Hp.ay na,h3];simp[bd])
 have qE:(0:Int)<=0/\(0:Int)<n:=aa;refine bq gB z0 ?_;refine⟨qE.2,?_⟩;refine ag ?_;refine LX (pre:=pre) (pad:=bd ms++pad) (m:=m) (e:=193) (by rw[Hp.ay na,h3];simp[bd]) ho ?_;refineλb3 gS=>?_;have Tf:¬q=b3:=λe=>by subst e;rw[gB]at gS;cases gS
 have nb:¬b3=b2:=bh gS aT;have lM:∀x y,((U.set b2 x).set b3 y).f q=some (.cells [sV name,.slice (some ⟨a,o,none⟩) n c,iV held,iV last,cons].toArray 81 (0,0)):=λx y=>(Hp.ay Tf).trans (gB _);have ad9:∀x y,((U.set b2 x).set b3 y).f b2=some x:=λx y=>(Hp.ay (λe=>nb e.symm)).trans aT;have Gk:n<=c:=by rw[xp];exact h1
 simp only[go_sem,seval,lM,aQ.v];refine⟨aa,?_⟩;have iy:∀x y z,(((U.set b2 x).set b3 y).set q z).f b2=some x:=λx y z=>(Hp.ay (λe=>nq e.symm)).trans (ad9 _ _);have Dy:∀x y z,(((U.set b2 x).set b3 y).set q z).f b3=some y:=λx y z=>(Hp.ay (λe=>Tf e.symm)).trans aT;refine bR lM iy Dy ?_
 obtain⟨iU,gZ,tU⟩:∃iU,iU=Value.slice (if c=1 then some ⟨a,o,none⟩else some ⟨a,o+4,none⟩) (n-1) (c-1)/\gz U ms iU:=by
  refine⟨_,rfl,?_⟩;have e1:n-1=ms.length:=aa;rw[e1];by_cases cG:c=1
  ·rw[if_pos cG,ho];have:ms.length=0:=aa;have Gg:ms=[]:=List.length_eq_zero_iff.1 this;subst Gg;exact .at a pre (m.vals++pad) (c-1) ak (by simp;omega) (by rw[h3];simp[bd])
  ·rw[if_neg cG];have e2:o+4=(pre++m.vals).length:=by rw[ho];simp[aQ.vals]
   rw[e2];have kS:4*(c-n)<=pad.length:=by rw[xp];exact h2
   exact .at a (pre++m.vals) pad (c-1) aa aa (by rw[h3];simp[bd])
 rw[<-gZ];refine al (T9 (b:=b2) (v:=m.v) (by simp[up]) Sb (GQ (pre:=[]) (pad:=[]) (m:=m) (e:=193) aT)) ao ⟨by simp[up],iU,tU,?_,?_⟩
 rotate_left
 ·by_cases cG:c=1
  ·exact⟨a,pre.length,o,_,_,c,_,rfl,by rw[gZ,if_pos cG]⟩
  ·exact⟨a,pre.length,o+4,_,_,c,_,rfl,by rw[gZ,if_neg cG]⟩
 intro x p hx;by_cases zh:x=q
 ·subst zh;rw[Hp.bD]at hx;rw[Hp.ay nq,Hp.bD,<-hx];rfl
 ·rw[Hp.ay zh]at hx;have n2:¬x=b2:=bh hx dh;have n3:¬x=b3:=λe=>by subst e;rw[Hp.ay nb,hx]at gS;cases gS
  rw[Hp.ay n2,Hp.ay zh,Hp.ay n3,Hp.ay n2];exact hx
def iH:oC prog 78 where
 e:=193
 z:=4
 zero:=#[.int .i64 0,.string (B []),.string (B []),.bool false]
 bytes:=48
 hu:=ah
 hi:=⟨t193,.agg #[.int .i64 0,.string (B []),.string (B []),.bool false],ah,ah,ah,rfl,ah⟩
def gz.shape(h:gz U ms v):∃b c,v=.slice b ms.length c:=by
 cases h with
 |none h=>subst h;exact⟨_,_,rfl⟩
 |«at»a pre pad c h1 h2 h3=>exact⟨_,_,rfl⟩
def gz.set(h:gz U ms v){x:Nat}{o:Obj}(hx:∀z,U.f x≠some (.cells z 193 (0,0))):gz (U.set x o) ms v:=by
 cases h with
 |none h=>exact .none h
 |«at»a pre pad c h1 h2 h3=>exact .at a pre pad c h1 h2 ((Hp.ay (λe=>by subst e;exact hx _ h3)).trans h3)
def aqU(k:Nat):(Builtin.zeroCells iH.zero k).size=k*4:=by simp[Builtin.zeroCells,iH]
def EW(k:Nat):(Builtin.zeroCells iH.zero k).toList.length=k*4:=by rw[<-aqU,Array.length_toList]
def SN(ms:List aQ)(m:aQ):bd (ms++[m])=bd ms++m.vals:=by simp[bd]
def NN{x y:Operand}{v0:Value}{bn:Nat}(hv:gz U ms v0)(hx:ai I x=v0)(hy:ai I y=.slice (some ⟨bn,0,none⟩) 1 1)(cE:U.f bn=some (.cells #[iV m.seq,sV m.key,sV m.body,.bool m.again] 193 (0,0)))(fJ:ms.length<=1000000)(h:∀rv a o,(U.f a=none\/∃off n c z,v0=.slice (some ⟨a,off,none⟩) n c/\U.f a=some (.cells z 193 (0,0)))->(∀R:Hp,R.f a=some o->gz R (ms++[m]) rv)->(∃z,o=.cells z 193 (0,0))->nx (aA I dst rv) ds (U.set a o)):
 aS E ⟨dst,.call ⟨.builtin .append,#[x,y],#[78,78]⟩,ty,pos,af,g⟩ I ds U nx pn:=by
 have hn:s7 (ai I y)=some 1:=by rw[hy];rfl
 have iL:iM U iH.z 1 (ai I y)=some #[iV m.seq,sV m.key,sV m.body,.bool m.again]:=by rw[hy];show iM U 4 1 _=_;simp[iM,cellsOf,cE]
 have gX:∀n,n<=1000000->(2*(n+1)+192)*iH.bytes<=2^48:=by intro n hn;show(2*(n+1)+192)*48<=2^48;omega
 cases hv with
 |none h0=>
  subst h0;refine ss iH (base:=none) (l:=0) (c:=0) (n:=1) (old:=#[]) (new:=_) ah hx hn rfl iL (gX 0 aa) aa (λhc=>aa) ?_;intro hc b cap eU jP;refine h _ b _ (.inl eU) (λR ht=>?_) ⟨_,rfl⟩;refine .at b [] (Builtin.zeroCells iH.zero (cap-1)).toList cap (aV jP) ?_ ?_
  ·rw[EW];simp;omega
  ·rw[ht];simp[bd,aQ.vals,iH]
 |«at»a pre pad c h1 h2 h3=>
  have hold:iM U iH.z ms.length (.slice (some ⟨a,pre.length,none⟩) ms.length c)=some (bd ms).toArray:=by
   show(cellsOf U ⟨a,pre.length,none⟩ (ms.length*4))=_;have e:pre.length+ms.length*4<=pre.length+(bd ms).length+pad.length:=by rw[pq];omega
   have e2:ms.length*4=(bd ms).length:=by rw[pq];omega
   simp only[cellsOf,h3,List.size_toArray,List.length_append,true_and,if_pos e];congr 1;apply Array.ext';simp[e2]
  refine ss iH (base:=some ⟨a,pre.length,none⟩) (l:=ms.length) (c:=c) (n:=1) (old:=(bd ms).toArray) (new:=_) ah hx hn hold iL (gX _ fJ) aa ?_ ?_
  ·intro hc;have hp4:4<=pad.length:=aa;have e2:ms.length*4=(bd ms).length:=by rw[pq];omega
   have e3:((pre++bd ms++pad).toArray.extract 0 (pre.length+ms.length*4)++ #[iV m.seq,sV m.key,sV m.body,.bool m.again]++(pre++bd ms++pad).toArray.extract (pre.length+ms.length*4+4) (pre++bd ms++pad).toArray.size)=(pre++bd (ms++[m])++pad.drop 4).toArray:=by
    apply Array.ext';rw[SN,e2];simp[aQ.vals,List.drop_append]
    have d1:(pre++(bd ms++pad)).take (pre.length+(bd ms).length)=pre++bd ms:=by rw[<-List.append_assoc,List.take_left' ak]
    have k1:pre.length+(bd ms).length+4-pre.length-(bd ms).length=4:=aa;rw[List.drop_eq_nil_of_le (by omega:pre.length<=_),List.drop_eq_nil_of_le (by omega:(bd ms).length<=_),d1,k1,List.nil_append,List.nil_append,List.take_of_length_le (by simp;omega)];simp
   refine⟨_,⟨_,_,h3,rfl,?_,by simp[di],rfl⟩,?_⟩
   ·show pre.length+ms.length*4+4<=_;simp[pq];omega
   ·show nx _ _ (U.set a (.cells ((pre++bd ms++pad).toArray.extract 0 (pre.length+ms.length*4)++ #[iV m.seq,sV m.key,sV m.body,.bool m.again]++(pre++bd ms++pad).toArray.extract (pre.length+ms.length*4+4) (pre++bd ms++pad).toArray.size) 193 (0,0)));rw[e3];have:=h (.slice (some ⟨a,pre.length,none⟩) (ms++[m]).length c) a _ (.inr ⟨_,_,_,_,rfl,h3⟩) (λR ht=>.at a pre (pad.drop 4) c (by simp;omega) (by simp;omega) ht) ⟨_,rfl⟩;simp only[List.length_append,List.length_singleton]at this;exact this
  ·intro hc b cap eU jP;have e2:ms.length*4=(bd ms).length:=by rw[pq];omega
   have:=h (.slice (some ⟨b,([]:List Value).length,none⟩) (ms++[m]).length cap) b (.cells ((bd ms).toArray++ #[iV m.seq,sV m.key,sV m.body,.bool m.again]++Builtin.zeroCells iH.zero (cap-(ms.length+1))) 193) (.inl eU) (λR ht=>.at b [] (Builtin.zeroCells iH.zero (cap-(ms.length+1))).toList cap (aV jP) (by rw[EW];simp;omega) (by rw[ht,SN];simp[aQ.vals])) ⟨_,rfl⟩;simp only[List.length_append,List.length_singleton,List.length_nil]at this;exact this
variable {bb mq k st:Nat}{dm messages aY:Int}{l:List (List UInt8×Value×Nat)}{key:List UInt8}
def alU{body:List UInt8}{rv:Value}(hb:U.f bb=some (ij mq dm messages aY))(hm:U.f mq=some (aU bP l k))(hl:dt l key=some (key,pV q,st))(hq:U.f q=some (fy name rv held last cons))(hr:gz U ms rv)(hn:ms.length<=1000)(hh:0<=held/\held<=1000000)(afn:(ms.length:Int)+held<dm)(rI:0<=messages/\messages<=1000000000000):
 aw E 285 #[pV bb,sV key,sV body] U λe R=>e=.returned .nilIface/\∃iU a o,(U.f a=none\/∃off n c z,rv=.slice (some ⟨a,off,none⟩) n c/\U.f a=some (.cells z 193 (0,0)))/\(∃z,o=.cells z 193 (0,0))/\(∀bY:Hp,bY.f a=some o->gz bY (ms++[⟨messages+1,key,body,false⟩]) iU)/\
  (((U.set bb (ij mq dm (messages+1) aY)).set a o).set q (fy name iU held last cons)).le R:=by
 refine aX func285 ntmps285 results285 λQ aB al az=>?_;obtain⟨b0,c0,gZ⟩:=hr.shape;have cD:=hb;have bu:=hq;rw[gZ]at bu;simp only[ij]at cD;simp only[fy]at bu;have LA:¬q=bb:=bh hb hq (by simp[fy,ij]);refine aH cD ?_;refine jU (b:=mq) (k:=key) (l:=l) (c:=k) vT (z:=.pointer none) ah ?_ hm ?_ ?_
 ·exact au
 ·exact au
 have dr:((dt l key).map (·.2.1)).getD (.pointer none)=pV q:=by rw[hl];rfl
 simp only[go_sem,seval,dr,Bool.false_eq_true];refine bJ 15 ?_;have wl:IntKind.i64.wrap ((ms.length:Int)+held)=(ms.length:Int)+held:=wrap64 aa aa;have wm:IntKind.i64.wrap (messages+1)=messages+1:=wrap64 aa aa;have c1:¬(ms.length:Int)+held>=dm:=aa;have AV:∀o,(U.set bb o).f q=some (.cells [sV name,.slice b0 ms.length c0,iV held,iV last,cons].toArray 81 (0,0)):=λo=>(Hp.ay LA).trans bu;refine ln bu cD wl c1 wm ?_;refine bJ 17 ?_;refine aH AV ?_;refine⟨dL AV,?_⟩;refine ag ?_;have eb:(Obj.cells (([.map (some mq),iV dm,iV messages,iV aY]:List Value).set 2 (.int .i64 (messages+1))).toArray 116)=ij mq dm (messages+1) aY:=rfl;rw[eb];obtain⟨dg,rM⟩:∃dg,dg=U.set bb (ij mq dm (messages+1) aY):=⟨_,rfl⟩;have jh:dg.f q=some (.cells [sV name,.slice b0 ms.length c0,iV held,iV last,cons].toArray 81 (0,0)):=by rw[rM];exact AV _
 have eX:gz dg ms rv:=by rw[rM];exact hr.set (by rw[hb];intro z h;simp[ij]at h)
 rw[<-rM];refineλbn cE=>?_;have LQ:¬q=bn:=bh cE jh;have Dv:∀x,(dg.set bn x).f q=some (.cells [sV name,.slice b0 ms.length c0,iV held,iV last,cons].toArray 81 (0,0)):=λx=>(Hp.ay LQ).trans jh;have kr:∀x,dg.le (dg.set bn x):=λx y p h=>by rw[Hp.ay (bh cE h)];exact h
 refine⟨dL Dv,?_⟩;refine ag ?_;refine NN (ms:=ms) (m:=⟨messages+1,key,body,false⟩) (v0:=rv) (bn:=bn) (eX.le (kr _)) ?_ ?_ aT aa ?_
 ·simp only[go_sem,seval];exact gZ.symm
 ·exact au
 intro iU a o ha rF ho
 have de:¬a=bn/\(dg.f a=none\/∃off n c z,rv=.slice (some ⟨a,off,none⟩) n c/\dg.f a=some (.cells z 193 (0,0))):=by
  rcases ha with ha|⟨off,n,c,z,e1,e2⟩
  ·have n1:¬a=bn:=bh ha aT;exact⟨n1,.inl ((Hp.ay n1).symm.trans ha)⟩
  ·have h1:∃z,dg.f a=some (.cells z 193 (0,0)):=by
    rw[e1]at eX
    cases eX with
    |«at»_ pre pad _ _ _ h3=>exact⟨_,h3⟩
   obtain⟨z',xy⟩:=h1;exact⟨(bh cE xy),.inr ⟨off,n,c,z',e1,xy⟩⟩
 have LO:¬q=a:=λe=>by
  subst e;rcases de.2 with h|⟨_,_,_,_,_,h⟩
  ·rw[jh]at h;cases h
  ·rw[jh]at h;simp at h
 have Dt:∀x y,((dg.set bn x).set a y).f q=some (.cells [sV name,.slice b0 ms.length c0,iV held,iV last,cons].toArray 81 (0,0)):=λx y=>(Hp.ay LO).trans (Dv x);refine⟨dL Dt,?_⟩;obtain⟨b1,vj,afR⟩:=(rF _ (Hp.bD (U:=U) a o)).shape;subst afR;refine aH Dt ?_;refine⟨dL Dt,?_⟩
 have dq:¬a=bb/\(U.f a=none\/∃off n c z,rv=.slice (some ⟨a,off,none⟩) n c/\U.f a=some (.cells z 193 (0,0))):=by
  have n1:¬a=bb:=λe=>by subst e;rcases de.2 with h|⟨_,_,_,_,_,h⟩<;>(rw[rM,Hp.bD]at h;simp[ij]at h)
  refine⟨n1,?_⟩;rcases de.2 with h|⟨off,n,c,z,e1,h⟩
  ·left;rw[rM,Hp.ay n1]at h;exact h
  ·right;rw[rM,Hp.ay n1]at h;exact⟨off,n,c,z,e1,h⟩
 refine al aG ao ⟨by simp[up],_,a,o,dq.2,ho,rF,?_⟩;rw[<-rM];exact gG (gG (kr _) _ _) _ _
def tQ(q:Nat)(m:aQ):Value:=.agg #[pV q,iV m.seq,sV m.key,sV m.body,.bool m.again]
def abO(hb:U.f bb=some (ij mq dm messages aY))(hm:U.f mq=some (aU bP l k))(hl:dt l key=some (key,pV q,st)):
 aw E 287 #[pV bb,sV key] U λe R=>e=.returned (.tuple #[pV q,.nilIface])/\R=U:=by
 refine eY func287 ntmps287 results287 rfl ak λQ aB al az=>?_;simp only[ij]at hb;refine aH hb ?_;refine jU (b:=mq) (k:=key) (l:=l) (c:=k) vT (z:=.pointer none) ah ?_ hm ?_ ?_
 ·exact au
 ·exact au
 have dr:((dt l key).map (·.2.1)).getD (.pointer none)=pV q:=by rw[hl];rfl
 simp only[go_sem,seval,dr,Bool.false_eq_true];exact al iT ao ⟨by simp[up],rfl⟩
@[go_sem] def arU{p q:Prop}{b:Bool}:l7 p q b none=q:=by simp[l7]
@[go_sem] def aq8:B4 undef=none:=bj
end Go.Qw
