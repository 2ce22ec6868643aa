/- Part 20. -/
import Derived.Test.YtpiabknabfbfhaaGreatDoorRows
import Derived.Conc.LeavingOf
import Derived.LaidLaws
import Derived.LaidHandle
import Derived.Lay
import Derived.Lib.LaidTab
import Derived.Lib.LaidU8
import Derived.Lib.Props
import Derived.Test.YtpiabknabfbfhaaGreatDoorFairly19
set_option linter.all false
set_option maxRecDepth 100000
set_option maxHeartbeats 8000000
namespace Go.Qw
open Go Go.Conc Go.Proofs Go.Proofs.Tryz
section
open Go.Extern
abbrev hT(t:Nat):Value:=.pointer (some ⟨4,t,none⟩)
abbrev rT(t:Nat):Value:=.iface 222 (.agg #[hT t])
variable {H:Halt->Hp->Prop}{σ:Hp}{QM:FuncId×Value->Hp->Prop}{t:Nat}
def Ac:wpS prog (method (prog.types.size+Made.depth) 222 (.agg #[hT t]) "Kind") QM H σ=QM (319,hT t) σ:=ah
def Ir:wpS prog (method (prog.types.size+Made.depth) 222 (.agg #[hT t]) "Elem") QM H σ=QM (335,.agg #[hT t]) σ:=ah
def Is:wpS prog (method (prog.types.size+Made.depth) 222 (.agg #[hT t]) "Implements") QM H σ=QM (336,.agg #[hT t]) σ:=ah
def Fb:wpS prog (method (prog.types.size+Made.depth) 222 (.agg #[hT t]) "AssignableTo") QM H σ=QM (333,.agg #[hT t]) σ:=ah
def Fc(z:Sem Value)(f:TypeId->Addr->Nat->Nat->Sem Value)(v:Value):
 ReflectliteValue.method z f #[v]=(do match<-ReflectliteValue.parts v with|none=>z|some (t,a,fl)=>f t a fl (fl % 32)):=rfl
variable {t:TypeId}{v:Value}
def B4{a:TypeId}{e:TypeId}(hg:dx prog t=false)(ha:σ.f a=some (.cells #[v] e (0,0))):iQ prog t ⟨a,0,none⟩ σ=some v:=by unfold iQ;rw[if_neg (by rw[hg];simp)];simp[Hp.cell?,ha]
def NR(v x:Value):ReflectliteValue.set #[v,x]=(do
 let(some (dst,a,fl),some (src,b,_)):=(<-ReflectliteValue.parts v,<-ReflectliteValue.parts x)
  |unsupported (.noEntry "extern/(internal/reflectlite.Value).Set.zeroValue")
 if fl/ReflectliteValue.flagAddr % 2==0 then unsupported (.noEntry "extern/(internal/reflectlite.Value).Set.unaddressable")
 let val<-loadVar src b
 if<-Rtype.directlyAssignable dst src then storeVar dst a val
 else if<-Rtype.implements dst src then
  if(<-Rtype.kind src)==20 then
   match val with
   | .nilIface=>unsupported (.noEntry "extern/reflectlite: a nil value of one interface type handed on as a value of another")
   |_=>storeVar dst a val
  else storeVar dst a (.iface src val)
 else panicString ("reflectlite.Set: value of type " ++(<-Rtype.spelt src)++ " is not assignable to type " ++(<-Rtype.spelt dst))
 pure (.tuple #[])):=rfl
variable {P:Program}{E:Env P}{ρ:av}{ds:List Deferred}{dst:Option Tmp}{ty:TypeId}{pos:String}{af:Array Edge}{g:Option (Nat×Bool)}{nx:av->List Deferred->Hp->Prop}{pn:List PanicEntry->Hp->Prop}
def lJ{r:Operand}{name:String}{args:Array Operand}{cg:Array TypeId}{recv:Value}{f:FuncId}(hx:ak ρ r=.iface t v)(hm:∀(Q:FuncId×Value->Hp->Prop) (H:Halt->Hp->Prop),Q (f,recv) σ->wpS P (method (P.types.size+Made.depth) t v name) Q H σ)(h:jR E f (#[recv]++args.map (ak ρ)) σ dst ρ ds nx pn):aT E ⟨dst,.call ⟨.invoke r name,args,cg⟩,ty,pos,af,g⟩ ρ ds σ nx pn:=by
 show wpOp E _ ρ ds σ nx pn;unfold wpOp
 have e1:(#[Value.iface t v]++args.map (ak ρ)).extract 1 (#[Value.iface t v]++args.map (ak ρ)).size=args.map (ak ρ):=by apply Array.ext';simp[List.take_of_length_le]
 have e2:(#[Value.iface t v]++args.map (ak ρ))[0]? =some (.iface t v):=by rw[Array.getElem?_append_left al];rfl
 simp only[execOp,resolve,hx,aH,bq,invoke,e2,callMethod,zK];refine hm _ _ ?_;rw[e1];exact h
def EN:Extern.find f61=some (λargs=>ReflectliteValue.unpack (args.getD 0 (.tuple #[]))):=ah
def M1:Extern.find f62=some (ReflectliteValue.methodAny (ReflectliteValue.valueError "reflectlite.Value.Type" 0) (λt _ _ _=>ReflectliteType.toType t)):=ah
def M3:Extern.find f63=some (ReflectliteValue.method (ReflectliteValue.valueError "reflectlite.Value.IsNil" 0) ReflectliteValue.isNil):=ah
def HJ:Extern.find f113=some ReflectliteType.typeOf:=ah
def Vh:Extern.find f114=some (ReflectliteValue.method (ReflectliteValue.valueError "reflectlite.Value.Elem" 0) ReflectliteValue.elem):=ah
def Vi:Extern.find f115=some ReflectliteValue.set:=ah
def BM:Extern.find f319=some (ReflectliteType.abiMethod λt=>(λa:Nat=>Value.int IntKind.u8 (a:Int))<$>Rtype.kind t):=ah
def HL:Extern.find f333=some (ReflectliteType.relation "AssignableTo" ReflectliteType.assignableTo):=ah
def MZ:Extern.find f335=some (ReflectliteType.method ReflectliteType.elem):=ah
def M0:Extern.find f336=some (ReflectliteType.relation "Implements" ReflectliteType.implements_):=ah
end
def Xb(i n:Nat):aw (i+1) n=(n/256^i).toUInt8::aw i n:=by unfold aw;rw[List.range_succ_eq_map,List.map_cons,List.map_map];congr 1;apply List.map_congr_left;intro j hj;simp only[Function.comp_def];have:i+1-1-(j+1)=i-1-j:=aa;rw[this]
variable {P:Program}{ρ:av}{ds:List Deferred}{σ:Hp}{dst:Option Tmp}{ty:TypeId}{pos:String}{af:Array Edge}{g:Option (Nat×Bool)}{nx:av->List Deferred->Hp->Prop}{pn:List PanicEntry->Hp->Prop}{E:Env P}{b:Nat}{pad:List Value}
def Yw{s d e:TypeId}{x:Operand}{cap:Nat}{k:Nat}{et:TypeId}(hs:P.underlying s=some (.slice e))(hd:P.underlying d=some .string)(he:P.underlying e=some (.int .u8))(hx:ak ρ x=.slice (some ⟨b,0,none⟩) 1 cap)(hb:σ.f b=some (.cells (.int .u8 k::pad).toArray et (0,0)))(h:nx (aB ρ dst (.string (B [UInt8.ofNat k]))) ds σ):wpOp E ⟨dst,.convert s d x,ty,pos,af,g⟩ ρ ds σ nx pn:=by
 unfold wpOp;simp only[execOp,convert,aH,dZ,hs,hd,hx,he,Conv.bytesToString,loadCells];refine MU (a:=⟨b,0,none⟩) hb rfl 1 0 #[] _ al ?_
 have e1:(#[]++(.int .u8 (k:Int)::pad).toArray.extract ((⟨b,0,none⟩:Addr).off+0) ((⟨b,0,none⟩:Addr).off+0+1):Array Value)= #[.int .u8 (k:Int)]:=by apply Array.ext';simp
 rw[e1];exact h
variable {E:Env prog}
def iA{n w:Nat}(hw:w<=8)(hn:n<9223372036854775808):ay E 20 #[iV n,iV w] σ λe τ=>e=.returned (sV (aw w n))/\τ=σ:=by
 refine fI func20 ntmps20 results20 rfl al λQ aC an aA=>?_;refine ag ?_;refine dh (λm ρ ds ae=>ds=[]/\σ.le ae/\ρ 1=iV w/\∃i:Nat,i+m=w/\ρ 0=iV ((n/256^i:Nat):Int)/\ρ 5=sV (aw i n)/\ρ 6=iV i) w ?_ ?_
 ·refine⟨rfl,Hp.le_refl _,?_,0,al,?_,?_,?_⟩
  ·exact au
  ·simp only[go_sem,seval];simp
  ·exact au
  ·exact au
 ·rintro m ρ ds ae X ⟨rfl,hle,h1,i,yQ,h0,h5,h6⟩ hX
  cases m with
  |zero=>
   have c0:¬(i:Int)<w:=aa;obtain rfl:i=w:=aa;refine fB h1 h5 h6 c0 ?_;exact an (τ:=σ) aI hle ⟨by simp[up],rfl⟩
  |succ m=>
   have c0:(i:Int)<w:=aa;have wU:IntKind.u8.wrap ((n/256^i:Nat):Int)=(((n/256^i) % 256:Nat):Int):=by rw[IntKind.wrap_u8];omega
   have wS:xQ .i64 ((n/256^i:Nat):Int) 8=((n/256^(i+1):Nat):Int):=by unfold xQ;have e1:(8:Int).toNat=8:=rfl;have e2:min 8 IntKind.i64.bits=8:=rfl;rw[e1,e2,Nat.pow_succ,<-Nat.div_div_eq_div_mul,Int.natCast_ediv,show(2:Int)^8=((256:Nat):Int)from rfl,Int.fdiv_eq_ediv_of_nonneg _ aa];simp only[Int.natCast_ediv]
   have w1:=fF i;refine lO h0 h1 h6 c0 wU ?_;refineλb hb=>?_;have nQ:∀o,σ.le (ae.set b o):=λo x p h=>by rw[Hp.az (bp hb (hle _ _ h))];exact hle _ _ h
   refine ag ?_;refine Yw (e:=5) (b:=b) (cap:=1) (k:=(n/256^i) % 256) (pad:=[]) (et:=5) ah ah ah ?_ aY ?_
   ·exact au
   have lb:1+(aw i n).length<=9223372036854775807:=by rw[bV];omega
   have eB:[UInt8.ofNat ((n/256^i) % 256)]++aw i n=aw (i+1) n:=by
    rw[Xb]
    have:UInt8.ofNat ((n/256^i) % 256)=(n/256^i).toUInt8:=by apply UInt8.toNat_inj.1;simp
    rw[this];rfl
   simp only[go_sem,seval,h0,h5,h6,lb,eB,wS,w1];refine hX m _ _ _ _ aa ⟨rfl,nQ _,?_,i+1,aa,?_,?_,?_⟩ ao
   ·exact aK h1
   ·exact au
   ·exact au
   ·exact au
def n7{s:List UInt8}(hs:s.length<=1000000):ay E 19 #[sV s] σ λe τ=>e=.returned (sV (aw 1 s.length++s))/\τ=σ:=by
 refine fI func19 ntmps19 results19 rfl al λQ aC an aA=>?_;refine ag ?_;refine aR (iA (n:=s.length) (w:=1) ai aa) ?_;have l1:(aw 1 s.length).length+s.length<=9223372036854775807:=by rw[bV];omega
 refine aG l1 ?_;exact an aI ao ⟨by simp[up],rfl⟩
variable {ch:Nat}{p:List UInt8}
def GQ{kind:Nat}(hk:kind<1000)(hc:ch<100000)(hp:p.length<=1000000):ay E 21 #[iV kind,iV ch,sV p] σ λe τ=>e=.returned (sV (kt kind ch p))/\τ=σ:=by
 refine fI func21 ntmps21 results21 rfl al λQ aC an aA=>?_;refine ag ?_;refine aR (iA (n:=kind) (w:=1) ai aa) ?_;refine ag ?_;refine aR (iA (n:=ch) (w:=2) ai aa) ?_;refine ag ?_;refine aR (iA (n:=p.length) (w:=4) ai aa) ?_;have l1:(aw 1 kind).length+(aw 2 ch).length<=9223372036854775807:=by simp only[bV];omega
 have l2:(aw 1 kind++aw 2 ch).length+(aw 4 p.length).length<=9223372036854775807:=by simp only[List.length_append,bV];omega
 have l3:(aw 1 kind++aw 2 ch++aw 4 p.length).length+p.length<=9223372036854775807:=by simp only[List.length_append,bV];omega
 have l4:(aw 1 kind++aw 2 ch++aw 4 p.length++p).length+1<=9223372036854775807:=by simp only[List.length_append,bV];omega
 refine fB l1 l2 l3 l4 ?_;exact an aI ao ⟨by simp[up,kt],rfl⟩
variable {cl me:Nat}
def ah7(hc:ch<100000)(h1:cl<100000)(h2:me<100000)(hp:p.length<=100000):ay E 18 #[iV ch,iV cl,iV me,sV p] σ λe τ=>e=.returned (sV (kt 1 ch (aw 2 cl++aw 2 me++p)))/\τ=σ:=by
 refine fI func18 ntmps18 results18 rfl al λQ aC an aA=>?_;refine ag ?_;refine aR (iA (n:=cl) (w:=2) ai aa) ?_;refine ag ?_;refine aR (iA (n:=me) (w:=2) ai aa) ?_;have l1:(aw 2 cl).length+(aw 2 me).length<=9223372036854775807:=by simp only[bV];omega
 have l2:(aw 2 cl++aw 2 me).length+p.length<=9223372036854775807:=by simp only[List.length_append,bV];omega
 refine bt l1 l2 ?_;refine aR (GQ (kind:=1) ai hc (by simp only[List.length_append,bV];omega)) ?_;refine ag ?_;exact an aI ao ⟨by simp[up],rfl⟩
def dt(ch cl me:Nat)(p:List UInt8):List UInt8:=kt 1 ch (aw 2 cl++aw 2 me++p)
def tq(ch cl me:Nat)(p:List UInt8):(dt ch cl me p).length=p.length+12:=by simp[dt,nL,bV];omega
def pH(h:Nat):List UInt8:=pA++dt 0 10 31 (aw 2 4++aw 4 64++aw 2 h)++dt 0 10 40 (aw 1 1++[47])++dt 1 20 10 (aw 1 0)++dt 1 50 10 (aw 1 1++[113])
def mV(hc:ch<100000)(h1:cl<100000)(h2:me<100000)(hp:p.length<=100000):ay E 18 #[iV ch,iV cl,iV me,sV p] σ λe τ=>e=.returned (sV (dt ch cl me p))/\τ=σ:=ah7 hc h1 h2 hp
def aef{h:Nat}(hh:h<=1000):ay E 38 #[iV h] σ λe τ=>e=.returned (sV (pH h))/\τ=σ:=by
 refine fI func38 ntmps38 results38 rfl al λQ aC an aA=>?_;refine ag ?_;refine aR (iA (n:=4) (w:=2) ai ai) ?_;refine ag ?_;refine aR (iA (n:=64) (w:=4) ai ai) ?_;refine ag ?_;refine aR (iA (n:=h) (w:=2) ai aa) ?_;have l1:(aw 2 4).length+(aw 4 64).length<=9223372036854775807:=ai;have l2:(aw 2 4++aw 4 64).length+(aw 2 h).length<=9223372036854775807:=by simp only[List.length_append,bV];omega
 refine bt l1 l2 ?_;refine aR (mV (ch:=0) (cl:=10) (me:=31) ai ai ai (by simp only[List.length_append,bV];omega)) ?_;have la:(dt 0 10 31 (aw 2 4++aw 4 64++aw 2 h)).length=20:=by rw[tq];simp[bV]
 have lb:(dt 0 10 40 (aw 1 1++[47])).length=14:=by rw[tq];simp[bV]
 have lc:(dt 1 20 10 (aw 1 0)).length=13:=by rw[tq];simp[bV]
 have ld:(dt 1 50 10 (aw 1 1++[113])).length=14:=by rw[tq];simp[bV]
 refine aG la ?_;refine aR (n7 (s:=[47]) ai) ?_;refine ag ?_;refine aR (mV (ch:=0) (cl:=10) (me:=40) (p:=aw 1 1++[47]) ai ai ai ai) ?_;refine bt la lb ?_;refine aR (n7 (s:=[]) ai) ?_;refine ag ?_;refine aR (mV (ch:=1) (cl:=20) (me:=10) (p:=aw 1 0) ai ai ai ai) ?_;simp only[go_sem,seval,la,lb,lc,List.length_append];refine aR (n7 (s:=[113]) ai) ?_;refine ag ?_;refine aR (mV (ch:=1) (cl:=50) (me:=10) (p:=aw 1 1++[113]) ai ai ai ai) ?_;simp only[go_sem,seval,la,lb,lc,ld,List.length_append];exact an aI ao ⟨by simp[up,pH,pA],rfl⟩
def xK(c n:Int):Int:=(if c<0 then-(c+1)else c).tmod n
def alu{c n:Int}(hn:0<n):0<=xK c n/\xK c n<n:=by
 unfold xK;have h0:0<=(if c<0 then-(c+1)else c):=by split<;>omega
 exact⟨Int.tmod_nonneg n h0,Int.tmod_lt_of_pos _ hn⟩
def TA{c n:Int}(hc: -9223372036854775808<=c/\c<=9223372036854775807)(hn:0<n/\n<=1000):ay E 14 #[iV c,iV n] σ λe τ=>e=.returned (iV (xK c n))/\τ=σ:=by
 refine fI func14 ntmps14 results14 rfl al λQ aC an aA=>?_;have nz:¬n=0:=aa;by_cases h0:c<0
 ·have w1:IntKind.i64.wrap (c+1)=c+1:=wrap64 aa aa;have w2:IntKind.i64.wrap (0-(c+1))= -(c+1):=cI;refine fB h0 w1 w2 nz ?_;exact an aI ao ⟨by simp[up,xK,h0],rfl⟩
 ·refine bt h0 nz ?_;exact an aI ao ⟨by simp[up,xK,h0],rfl⟩
abbrev uK(W:World)(φ:Hp):Env prog:=(solo prog W).frame φ
def abm(F:FS){W:World}{φ:Hp}{a:F.γ}{ch:List UInt8}(fV:F.od a ch)(hI:F.I a σ)(hp:F.ph a≠5)(hn:ch.length<=4611686018427387904):
 ay (uK W φ) 40 #[pV F.bc,.string (B ch)] σ λe τ=>e=.returned (.tuple #[])/\∃a',F.Loop (F.add a ch) a'/\F.I a' τ:=by
 rintro cs m T ⟨d,hm⟩;obtain⟨N,m',T',g',τ,h1,h2,e,fr,rfl,hf,hl,rfl,a',ae,k1,k2,k3,rfl⟩:=abl F (W:=W) (φ0:=φ) fV hI d hp hn cs m T hm;refine⟨N,m',T',_,ae,h1,⟨k3,h2⟩,_,fr,rfl,hf,?_,rfl,a',k1,k2⟩;obtain⟨a1,a2,a3,fn,a4,a5⟩:=hl;refine⟨a1,a2,a3,fn,a4,?_⟩;rw[hf,func40]at a4;obtain rfl:=Option.some.inj a4;simp[results,bq]at a5|-
section
open Go.ChangeShapes Go.WideShapes Go.ChangeAt Go.RowKit Go.Lib
open Go.Proofs.YtpiabknabfbfhaaGreatDoor
def uh:List (String×DataW Unit):=[("errors.errorType",Rows.laid_errors_errorType),("unicode.properties",Rows.laid_unicode_properties),("unicode.Digit",Rows.laid_unicode_Digit),("unicode.Letter",Rows.laid_unicode_Letter)]
def uf:List (String×DataW Unit):=[("unicode.properties",Rows.laid_unicode_properties),("unicode.Digit",Rows.laid_unicode_Digit),("unicode.Letter",Rows.laid_unicode_Letter)]
def Sk:(uh.filter λx=>x.2.handleName?.isNone)=uf:=ah
def KY:(uh.filter λx=>x.2.handleName?.isSome)=[("errors.errorType",Rows.laid_errors_errorType)]:=ah
def own:ownKnob prog.godebug=none:=ah
def ab0:prog.globalNamed "errors.errorType" =some 0:=ah
def PO:prog.globalNamed "unicode.properties" =some 1:=ah
def anj:(prog.cutTypes.find? (·.1== "internal/reflectlite.rtype")).map (·.2)=some 222:=ah
def apt:prog.types.size=437:=ah
def akM:((List.range 437).filter λt=>prog.rowNamed t [101,114,114,111,114])=[45]:=ah
def adz:typeHandle prog 45=hT 45:=ah
def alz:Rows.laid_unicode_properties (H:=Unit)=tabData .u8 propertiesTab:=ah
variable {W:World}
def ah4(h:laidMetH prog uh W):W.var? prog "errors.errorType" =some #[rT 45]:=by unfold laidMetH at h;rw[KY]at h;obtain⟨name,u,ty,e1,e2,e3,e4,e5⟩:=h.2 _ (List.mem_singleton.2 rfl);have en:name=[101,114,114,111,114]:=(Option.some.inj e1).symm;subst en;obtain rfl:=Option.some.inj (anj.symm.trans e2);have hm:ty∈(List.range 437).filter λt=>prog.rowNamed t [101,114,114,111,114]:=List.mem_filter.2 ⟨List.mem_range.2 (by rw[<-apt];exact e3),e4⟩;rw[akM]at hm;obtain rfl:=List.mem_singleton.1 hm;rw[adz]at e5;exact e5
def ah6(h:laidMetH prog uh W):TabIs prog W "unicode.properties" .u8 propertiesTab:=by unfold laidMetH at h;rw[KY,Sk]at h;have h1:=h.1;unfold uf at h1;rw[alz]at h1;exact tabIs_of_head (t:=396) (e:=5) (n:=256) PO ah ah ah ah ah h1
def aqz:((begin prog (λ_ _=>0) default).world.heap[0]?).bind Obj.row?=some (#[.nilIface],143):=ah
def aqA:∃z,((begin prog (λ_ _=>0) default).world.heap[1]?).bind Obj.row?=some (z,396):=⟨(((begin prog (λ_ _=>0) default).world.heap[1]?).bind Obj.row?).elim #[] (·.1),ah⟩
def ah5(hs:W.ShapedOpen prog)(h:laidMetH prog uh W):
 W.heap[0]? =some (.cells #[rT 45] 143 (0,0))/\W.heap[1]? =some (.cells (propertiesTab.map λz=>Value.int .u8 z).toArray 396 (0,0)):=by
 constructor
 ·obtain⟨cs,h1,_,_⟩:=hs.1 0 _ _ (of_decide_eq_true ah) aqz;have h2:=ah4 h;unfold World.var? at h2;rw[ab0]at h2;simp only[Option.bind_some,h1]at h2;rw[h1,Option.some.inj h2]
 ·obtain⟨z,hz⟩:=aqA;obtain⟨cs,h1,_,_⟩:=hs.1 1 _ _ (of_decide_eq_true ah) hz;have h2:=ah6 h;unfold TabIs World.var? at h2;rw[PO]at h2;simp only[Option.bind_some,h1]at h2;rw[h1,Option.some.inj h2]
noncomputable def Qs(os:Os):World:=
 let w0:=World.holding prog os ⟨#[],#[],[]⟩
 {w0 with heap:=w0.heap.modify 0 λ
  | .cells _ t frozen=>.cells #[rT 45] t frozen
  |o=>o}
noncomputable def DD(os:Os):World:=(Qs os).layVars prog uf
def ah2(os:Os):(DD os).os=os:=World.layVars_os _ _ _
def KX:(uf.filter λx=>(uf.map (·.1)).contains x.1)=uf:=ah
def ah0:(uf.filter λx=> !(uf.map (·.1)).contains x.1)=[]:=ah
def ah1(os:Os)(args:Array Value):laidMetH prog uh ((DD os).forCall (λ_ _=>0) ⟨#[],args,[]⟩).memory:=by
 refine laidMetH_of_parts ?_ ?_
 ·rw[Sk];have h:laidMet prog uf (DD os):=laidMet_layVars (w0:=Qs os) (uf.map (·.1)) [] (by rw[KX];rfl) (by rw[KX];kernel_rfl) (by rw[KX];kernel_rfl) (by rw[ah0];exact LaidIn.none);exact h.of_heap (by simp[World.memory,World.forCall,Input.heap])
 ·rw[KY]
  kernel_rfl
def ah3(os:Os)(args:Array Value):((DD os).forCall (λ_ _=>0) ⟨#[],args,[]⟩).Shaped prog:=World.shaped_of_ZipB ah ah
variable {f:FuncId}{fn:Func}
def ank{HA:Tmp}{args:Array Value}{v0:Value}(D:Nat->Prop)(hi:prog.inits.idxOf? f=none)(rm:prog.funcs[f]? =some fn)(eN:fn.results= #[.tmp HA])(h:∀φ,ay (uK W φ) f args ((⟨λb=>W.heap[b]?⟩:Hp).only D) λe τ=>e=.returned v0/\∀b,D b->τ.f b=W.heap[b]?):
 ∃N last o w' t',runNT prog (N+1) (Conc.solo (G (Frame.enter prog f args .normal) []) W) #[]=(.ended o w',t')/\runN prog N (Conc.solo (G (Frame.enter prog f args .normal) []) W)=.next last/\step prog last=.ended o w'/\
  Conc.Good prog (λv w'=>v=v0/\Below W.heap.size W w') last o w' t':=by
 have hd:=Hp.akP (⟨λb=>W.heap[b]?⟩:Hp) D;have h1:=(h _).lz hd;rw[Hp.akR]at h1;refine an9 (R:=λv ae=>v=v0/\(⟨λb=>W.heap[b]?⟩:Hp).le ae) hi rm eN (h1.mono ?_) ?_
 ·rintro e τ ⟨ae,jm,rfl,rfl,hk⟩;refine⟨v0,rfl,rfl,λb o hb=>?_⟩;by_cases hD:D b
  ·exact Hp.jz ((hk b hD).trans hb)
  ·refine Hp.uj jm b o (Hp.G2 (D:=λb=>¬D b) hb hD)
 ·rintro v ae J w' ⟨rfl,hle⟩ hs hf
  have hb:∀k,k<W.heap.size->w'.heap[k]? =W.heap[k]? :=by intro k hk;obtain⟨o,ho⟩:∃o,W.heap[k]? =some o:=⟨_,Array.getElem?_eq_getElem hk⟩;rw[ho];exact hs.heap (hle k o ho)
  refine⟨rfl,hf.os,hf.tape,hf.output,?_,hb⟩;by_cases h0:W.heap.size=0
  ·omega
  ·have:=hb (W.heap.size-1) aa;have bj:W.heap.size-1<W.heap.size:=aa;rw[Array.getElem?_eq_getElem bj]at this;have:=(Array.getElem?_eq_some_iff.1 this).1;omega
def ail{H:Type}{enc:TypeId×Value->H}{a:Assume}{C:Checked}{os:Os}{s:ChangeSpec}{conds:List PathCond}{apart fresh handsOn again:Bool}{X:World->Array Value->Prop}(hX:∀(w w':World) (args:Array Value),w.heap=w'.heap->X w args->X w' args)(own:ownKnob C.prog.godebug=none)(started:os.Started)(rm:C.prog.funcs[f]? =some fn)(witness:∃(w:World) (tape:Tape) (i:Input),w.os=os/\(w.forCall tape i).Shaped C.prog/\i.vars=[]/\Input.okWide C.prog (w.forCall tape i) .any w.heap.size f i/\
  ((s.pre enc C.prog fn conds apart (w.forCall tape i).memory i.args/\X (w.forCall tape i).memory i.args)/\sizedMet enc C.prog fn (OpenSpec.ofChange s) apart (w.forCall tape i).memory i.args)/\a.holds C.prog (lone (Frame.enter C.prog f i.args .normal) [] (w.forCall tape i)))(runs:∀(W:World) (base:Nat) (args:Array Value) (ds gs:List (DataW H)) (before:List MemPlace),W.ShapedOpen C.prog->
  (∀(j:Nat) t v,fn.params[j]? =some t->args[j]? =some v->Value.okWide C.prog W .any base t v)->
  DataW.Whole enc C.prog fn.params.toList s.vars apart W args.toList ds gs before->
  (DataW.weightsEach C.prog (fn.params.toList++s.plain.varTypes C.prog) (ds++gs)).all (·<=reachBytes)=true->X W args->
  ∃M last o w' t',runNT C.prog (M+1) (Conc.solo (G (Frame.enter C.prog f args .normal) []) W) #[]=(.ended o w',t')/\runN C.prog M (Conc.solo (G (Frame.enter C.prog f args .normal) []) W)=.next last/\
   step C.prog last=.ended o w'/\Conc.Good C.prog (λv W'=>s.post enc C.prog fn apart fresh handsOn again W args v W') last o w' t'):
 ReturnsInLeavingWide a C os f .any (λw args=>(s.pre enc C.prog fn conds apart w args/\X w args)/\sizedMet enc C.prog fn (OpenSpec.ofChange s) apart w args) (s.post enc C.prog fn apart fresh handsOn again):=by
 refine returnsInLeavingWide_of_good own started witness ?_;intro w tape i _ xo _ fV afl _;obtain⟨_,_,_,Cq,CZ,_,_,_,_,dk⟩:=fV;obtain rfl:Cq=fn:=Option.some.inj (CZ.symm.trans rm);obtain⟨⟨⟨ds,gs,before,hw,_⟩,hx⟩,hz⟩:=afl;have jg:=DataW.Whole.of_heap (w':=w.forCall tape i) (by rfl) hw;obtain⟨M,last,o,w',t',h1,h2,h3,h4⟩:=runs (w.forCall tape i) w.heap.size i.args ds gs before xo dk jg (hz.weights hw) (hX _ _ _ (by rfl) hx);exact⟨M,last,o,w',t',h1,h2,h3,h4.mono λv hp=>ChangeSpec.post_blind hp⟩
end
structure aX where
 seq:Int
 key:List UInt8
 body:List UInt8
 again:Bool
def aX.vals(m:aX):List Value:=[iV m.seq,sV m.key,sV m.body,.bool m.again]
def aX.v(m:aX):Value:=.agg #[iV m.seq,sV m.key,sV m.body,.bool m.again]
def bd(ms:List aX):List Value:=ms.flatMap aX.vals
def oW(ms:List aX):(bd ms).length=4*ms.length:=by
 induction ms with
 |nil=>rfl
 |cons m ms ih=>simp only[bd,List.flatMap_cons,List.length_append,List.length_cons]at ih|-;rw[ih];simp[aX.vals];omega
inductive gB (σ:Hp) (ms:List aX):Value->Prop
 |none:ms=[]->gB σ ms (.slice Option.none 0 0)
 |at(a:Nat) (pre pad:List Value) (c:Nat):ms.length<=c->4*(c-ms.length)<=pad.length->σ.f a=some (.cells (pre++bd ms++pad).toArray 193 (0,0))->gB σ ms (.slice (some ⟨a,pre.length,Option.none⟩) ms.length c)
variable {τ:Hp}{ms:List aX}{v:Value}
def gB.le(h:gB σ ms v)(k:σ.le τ):gB τ ms v:=by
 cases h with
 |none h=>exact .none h
 |«at»a pre pad c h1 h2 h3=>exact .at a pre pad c h1 h2 (k _ _ h3)
def TZ{a u:Tmp}{t:TypeId}(ha:ρ a=pV b)(ht:dm P t=true)(h:iQ P t ⟨b,0,none⟩ τ=some v):ln P #[.cell a t,.tmp u] ρ τ (.tuple #[v,ρ u]):=by unfold ln;have h2:=vP (Q:=λv' ae=>v'=v/\ae=τ) (H:=λ_ _=>False) ht (ui h ⟨rfl,rfl⟩);simp only[aH,bq,asAddr];simp[ha];have e:((λx=>#[x,ρ u])<$>loadVar t ⟨b,0,none⟩:Sem (Array Value))=(loadVar t ⟨b,0,none⟩>>=λx=>pure #[x,ρ u]):=rfl;rw[e,aH];refine MW ?_ (λ_ _ h=>h) _ _ h2;rintro v' ae ⟨rfl,rfl⟩;simp[bq]
def aoO:cq prog 193=4:=ah
def VZ:dx prog 193=true:=ah
variable {pre:List Value}{m:aX}{e:Nat}
def GN(h:τ.f b=some (.cells (pre++m.vals++pad).toArray e (0,0))):iQ prog 193 ⟨b,pre.length,none⟩ τ=some m.v:=by unfold iQ;rw[if_pos VZ,aoO];simp[cellsOf,h,aX.vals,aX.v]
def LN{x:Option Obj}{o:Nat}{k:Value->Prop}(hx:x=some (.cells (pre++m.vals++pad).toArray e (0,0)))(ho:o=pre.length)(hk:k m.v):sQ (cellsIn o 4 k) x:=by
 subst hx ho;rw[Tm,Y9];refine⟨by simp[aX.vals],?_⟩;have:((pre++m.vals++pad).toArray.extract pre.length (pre.length+4))= #[iV m.seq,sV m.key,sV m.body,.bool m.again]:=by simp[aX.vals]
 rw[this];exact hk
variable {q c:Nat}{name:List UInt8}{held last:Int}{cons:Value}
def ajw{b:Option Addr}(hq:σ.f q=some (fw name (.slice b 0 c) held last cons)):
 ay E 90 #[pV q] σ λe τ=>e=.returned (.tuple #[(⟨0,[],[],false⟩:aX).v,.bool false])/\σ.le τ:=by
 refine aW func90 ntmps90 results90 λQ aC an aA=>?_;simp only[fw]at hq;refine ag ?_;refineλb2 eQ=>?_;have nq:¬q=b2:=bp eQ hq;have gD:∀o,(σ.set b2 o).f q=some (.cells [sV name,.slice b 0 c,iV held,iV last,cons].toArray 81 (0,0)):=λo=>(Hp.az nq).trans hq;have z0:((0:Nat):Int)=0:=rfl;refine bt gD z0 ?_;have hle:∀o,σ.le (σ.set b2 o):=λo x p h=>by rw[Hp.az (bp eQ h)];exact h
 refine an (TZ (b:=b2) (v:=(⟨0,[],[],false⟩:aX).v) (by simp[up]) R9 (GN (pre:=[]) (pad:=[]) aY)) ao ⟨by simp[up],hle _⟩
variable {rv:Value}
def ajv(hq:σ.f q=some (fw name rv held last cons))(hm:gB σ (m::ms) rv)(hn:ms.length<=1000):
 ay E 90 #[pV q] σ λe τ=>e=.returned (.tuple #[m.v,.bool true])/\∃iU,gB σ ms iU/\(σ.set q (fw name iU held last cons)).le τ/\∃(a off Tn n n' c c':Nat),rv=.slice (some ⟨a,off,none⟩) n c/\iU=.slice (some ⟨a,Tn,none⟩) n' c':=by
 refine aW func90 ntmps90 results90 λQ aC an aA=>?_;simp only[fw]at hq
 cases hm with
 |none h=>cases h
 |«at»a pre pad c h1 h2 h3=>
 obtain⟨n,xk⟩:∃n,n=(m::ms).length:=⟨_,rfl⟩;obtain⟨o,ho⟩:∃o,o=pre.length:=⟨_,rfl⟩;rw[<-xk,<-ho]at hq;have xm:n=ms.length+1:=by rw[xk];rfl
 refine ag ?_;refineλb2 eQ=>?_;have nq:¬q=b2:=bp eQ hq;have na:¬a=b2:=bp eQ h3;have naq:¬a=q:=λe=>by subst e;rw[hq]at h3;simp at h3
 have gD:∀x,(σ.set b2 x).f q=some (.cells [sV name,.slice (some ⟨a,o,none⟩) n c,iV held,iV last,cons].toArray 81 (0,0)):=λx=>(Hp.az nq).trans hq;have z0:¬((n:Nat):Int)=0:=aa
 have lD:iQ prog 193 ⟨a,o,none⟩ σ=some m.v:=by rw[ho];exact GN (e:=193) (pad:=bd ms++pad) (by rw[h3];simp[bd])
 have fL:∀x,iQ prog 193 ⟨a,o,none⟩ (σ.set b2 x)=some m.v:=λx=>by rw[ho];exact GN (e:=193) (pad:=bd ms++pad) (by rw[Hp.az na,h3];simp[bd])
 have qA:(0:Int)<=0/\(0:Int)<n:=aa;refine bt gD z0 ?_;refine⟨qA.2,?_⟩;refine ag ?_;refine LN (pre:=pre) (pad:=bd ms++pad) (m:=m) (e:=193) (by rw[Hp.az na,h3];simp[bd]) ho ?_;refineλb3 gN=>?_;have Tc:¬q=b3:=λe=>by subst e;rw[gD]at gN;cases gN
 have nb:¬b3=b2:=bp gN aY;have lE:∀x y,((σ.set b2 x).set b3 y).f q=some (.cells [sV name,.slice (some ⟨a,o,none⟩) n c,iV held,iV last,cons].toArray 81 (0,0)):=λx y=>(Hp.az Tc).trans (gD _);have adH:∀x y,((σ.set b2 x).set b3 y).f b2=some x:=λx y=>(Hp.az (λe=>nb e.symm)).trans aY;have Gi:n<=c:=by rw[xk];exact h1
 simp only[go_sem,seval,lE,aX.v];refine⟨aa,?_⟩;have iw:∀x y z,(((σ.set b2 x).set b3 y).set q z).f b2=some x:=λx y z=>(Hp.az (λe=>nq e.symm)).trans (adH _ _);have Ds:∀x y z,(((σ.set b2 x).set b3 y).set q z).f b3=some y:=λx y z=>(Hp.az (λe=>Tc e.symm)).trans aY;refine bO lE iw Ds ?_
 obtain⟨iU,gT,tK⟩:∃iU,iU=Value.slice (if c=1 then some ⟨a,o,none⟩else some ⟨a,o+4,none⟩) (n-1) (c-1)/\gB σ ms iU:=by
  refine⟨_,rfl,?_⟩;have e1:n-1=ms.length:=aa;rw[e1];by_cases cB:c=1
  ·rw[if_pos cB,ho];have:ms.length=0:=aa;have Ge:ms=[]:=List.length_eq_zero_iff.1 this;subst Ge;exact .at a pre (m.vals++pad) (c-1) al (by simp;omega) (by rw[h3];simp[bd])
  ·rw[if_neg cB];have e2:o+4=(pre++m.vals).length:=by rw[ho];simp[aX.vals]
   rw[e2];have kK:4*(c-n)<=pad.length:=by rw[xk];exact h2
   exact .at a (pre++m.vals) pad (c-1) aa aa (by rw[h3];simp[bd])
 rw[<-gT];refine an (TZ (b:=b2) (v:=m.v) (by simp[up]) R9 (GN (pre:=[]) (pad:=[]) (m:=m) (e:=193) aY)) ao ⟨by simp[up],iU,tK,?_,?_⟩
 rotate_left
 ·by_cases cB:c=1
  ·exact⟨a,pre.length,o,_,_,c,_,rfl,by rw[gT,if_pos cB]⟩
  ·exact⟨a,pre.length,o+4,_,_,c,_,rfl,by rw[gT,if_neg cB]⟩
 intro x p hx;by_cases zc:x=q
 ·subst zc;rw[Hp.bD]at hx;rw[Hp.az nq,Hp.bD,<-hx];rfl
 ·rw[Hp.az zc]at hx;have n2:¬x=b2:=bp hx eQ;have n3:¬x=b3:=λe=>by subst e;rw[Hp.az nb,hx]at gN;cases gN
  rw[Hp.az n2,Hp.az zc,Hp.az n3,Hp.az n2];exact hx
def iD:ou prog 78 where
 e:=193
 z:=4
 zero:=#[.int .i64 0,.string (B []),.string (B []),.bool false]
 bytes:=48
 hu:=ah
 hi:=⟨t193,.agg #[.int .i64 0,.string (B []),.string (B []),.bool false],ah,ah,ah,rfl,ah⟩
def gB.shape(h:gB σ ms v):∃b c,v=.slice b ms.length c:=by
 cases h with
 |none h=>subst h;exact⟨_,_,rfl⟩
 |«at»a pre pad c h1 h2 h3=>exact⟨_,_,rfl⟩
def gB.set(h:gB σ ms v){x:Nat}{o:Obj}(hx:∀z,σ.f x≠some (.cells z 193 (0,0))):gB (σ.set x o) ms v:=by
 cases h with
 |none h=>exact .none h
 |«at»a pre pad c h1 h2 h3=>exact .at a pre pad c h1 h2 ((Hp.az (λe=>by subst e;exact hx _ h3)).trans h3)
def aqy(k:Nat):(Builtin.zeroCells iD.zero k).size=k*4:=by simp[Builtin.zeroCells,iD]
def ER(k:Nat):(Builtin.zeroCells iD.zero k).toList.length=k*4:=by rw[<-aqy,Array.length_toList]
def SJ(ms:List aX)(m:aX):bd (ms++[m])=bd ms++m.vals:=by simp[bd]
def NG{x y:Operand}{v0:Value}{bn:Nat}(hv:gB σ ms v0)(hx:ak ρ x=v0)(hy:ak ρ y=.slice (some ⟨bn,0,none⟩) 1 1)(cz:σ.f bn=some (.cells #[iV m.seq,sV m.key,sV m.body,.bool m.again] 193 (0,0)))(fM:ms.length<=1000000)(h:∀rv a o,(σ.f a=none\/∃off n c z,v0=.slice (some ⟨a,off,none⟩) n c/\σ.f a=some (.cells z 193 (0,0)))->(∀τ:Hp,τ.f a=some o->gB τ (ms++[m]) rv)->(∃z,o=.cells z 193 (0,0))->nx (aB ρ dst rv) ds (σ.set a o)):
 aT E ⟨dst,.call ⟨.builtin .append,#[x,y],#[78,78]⟩,ty,pos,af,g⟩ ρ ds σ nx pn:=by
 have hn:sN (ak ρ y)=some 1:=by rw[hy];rfl
 have iF:iL σ iD.z 1 (ak ρ y)=some #[iV m.seq,sV m.key,sV m.body,.bool m.again]:=by rw[hy];show iL σ 4 1 _=_;simp[iL,cellsOf,cz]
 have gR:∀n,n<=1000000->(2*(n+1)+192)*iD.bytes<=2^48:=by intro n hn;show(2*(n+1)+192)*48<=2^48;omega
 cases hv with
 |none h0=>
  subst h0;refine rW iD (base:=none) (l:=0) (c:=0) (n:=1) (old:=#[]) (new:=_) ah hx hn rfl iF (gR 0 aa) aa (λhc=>aa) ?_;intro hc b cap eS jJ;refine h _ b _ (.inl eS) (λτ ht=>?_) ⟨_,rfl⟩;refine .at b [] (Builtin.zeroCells iD.zero (cap-1)).toList cap (aZ jJ) ?_ ?_
  ·rw[ER];simp;omega
  ·rw[ht];simp[bd,aX.vals,iD]
 |«at»a pre pad c h1 h2 h3=>
  have hold:iL σ iD.z ms.length (.slice (some ⟨a,pre.length,none⟩) ms.length c)=some (bd ms).toArray:=by
   show(cellsOf σ ⟨a,pre.length,none⟩ (ms.length*4))=_;have e:pre.length+ms.length*4<=pre.length+(bd ms).length+pad.length:=by rw[oW];omega
   have e2:ms.length*4=(bd ms).length:=by rw[oW];omega
   simp only[cellsOf,h3,List.size_toArray,List.length_append,true_and,if_pos e];congr 1;apply Array.ext';simp[e2]
  refine rW iD (base:=some ⟨a,pre.length,none⟩) (l:=ms.length) (c:=c) (n:=1) (old:=(bd ms).toArray) (new:=_) ah hx hn hold iF (gR _ fM) aa ?_ ?_
  ·intro hc;have hp4:4<=pad.length:=aa;have e2:ms.length*4=(bd ms).length:=by rw[oW];omega
   have e3:((pre++bd ms++pad).toArray.extract 0 (pre.length+ms.length*4)++ #[iV m.seq,sV m.key,sV m.body,.bool m.again]++(pre++bd ms++pad).toArray.extract (pre.length+ms.length*4+4) (pre++bd ms++pad).toArray.size)=(pre++bd (ms++[m])++pad.drop 4).toArray:=by
    apply Array.ext';rw[SJ,e2];simp[aX.vals,List.drop_append]
    have d1:(pre++(bd ms++pad)).take (pre.length+(bd ms).length)=pre++bd ms:=by rw[<-List.append_assoc,List.take_left' al]
    have k1:pre.length+(bd ms).length+4-pre.length-(bd ms).length=4:=aa;rw[List.drop_eq_nil_of_le (by omega:pre.length<=_),List.drop_eq_nil_of_le (by omega:(bd ms).length<=_),d1,k1,List.nil_append,List.nil_append,List.take_of_length_le (by simp;omega)];simp
   refine⟨_,⟨_,_,h3,rfl,?_,by simp[de],rfl⟩,?_⟩
   ·show pre.length+ms.length*4+4<=_;simp[oW];omega
   ·show nx _ _ (σ.set a (.cells ((pre++bd ms++pad).toArray.extract 0 (pre.length+ms.length*4)++ #[iV m.seq,sV m.key,sV m.body,.bool m.again]++(pre++bd ms++pad).toArray.extract (pre.length+ms.length*4+4) (pre++bd ms++pad).toArray.size) 193 (0,0)));rw[e3];have:=h (.slice (some ⟨a,pre.length,none⟩) (ms++[m]).length c) a _ (.inr ⟨_,_,_,_,rfl,h3⟩) (λτ ht=>.at a pre (pad.drop 4) c (by simp;omega) (by simp;omega) ht) ⟨_,rfl⟩;simp only[List.length_append,List.length_singleton]at this;exact this
  ·intro hc b cap eS jJ;have e2:ms.length*4=(bd ms).length:=by rw[oW];omega
   have:=h (.slice (some ⟨b,([]:List Value).length,none⟩) (ms++[m]).length cap) b (.cells ((bd ms).toArray++ #[iV m.seq,sV m.key,sV m.body,.bool m.again]++Builtin.zeroCells iD.zero (cap-(ms.length+1))) 193) (.inl eS) (λτ ht=>.at b [] (Builtin.zeroCells iD.zero (cap-(ms.length+1))).toList cap (aZ jJ) (by rw[ER];simp;omega) (by rw[ht,SJ];simp[aX.vals])) ⟨_,rfl⟩;simp only[List.length_append,List.length_singleton,List.length_nil]at this;exact this
variable {bb mq k st:Nat}{dg messages bh:Int}{l:List (List UInt8×Value×Nat)}{key:List UInt8}
def alD{body:List UInt8}(hb:σ.f bb=some (gZ mq dg messages bh))(hm:σ.f mq=some (aU bR l k))(hl:dn l key=some (key,pV q,st))(hq:σ.f q=some (fw name rv held last cons))(hr:gB σ ms rv)(hn:ms.length<=1000)(hh:0<=held/\held<=1000000)(aeZ:(ms.length:Int)+held<dg)(ru:0<=messages/\messages<=1000000000000):
 ay E 285 #[pV bb,sV key,sV body] σ λe τ=>e=.returned .nilIface/\∃iU a o,(σ.f a=none\/∃off n c z,rv=.slice (some ⟨a,off,none⟩) n c/\σ.f a=some (.cells z 193 (0,0)))/\(∃z,o=.cells z 193 (0,0))/\(∀cC:Hp,cC.f a=some o->gB cC (ms++[⟨messages+1,key,body,false⟩]) iU)/\
  (((σ.set bb (gZ mq dg (messages+1) bh)).set a o).set q (fw name iU held last cons)).le τ:=by
 refine aW func285 ntmps285 results285 λQ aC an aA=>?_;obtain⟨b0,c0,gT⟩:=hr.shape;have dE:=hb;have bz:=hq;rw[gT]at bz;simp only[gZ]at dE;simp only[fw]at bz;have Lt:¬q=bb:=bp hb hq (by simp[fw,gZ]);refine aG dE ?_;refine jM (b:=mq) (k:=key) (l:=l) (c:=k) vN (z:=.pointer none) ah ?_ hm ?_ ?_
 ·exact au
 ·exact au
 have dk:((dn l key).map (·.2.1)).getD (.pointer none)=pV q:=by rw[hl];rfl
 simp only[go_sem,seval,dk,Bool.false_eq_true];refine bG 15 ?_;have wl:IntKind.i64.wrap ((ms.length:Int)+held)=(ms.length:Int)+held:=wrap64 aa aa;have wm:IntKind.i64.wrap (messages+1)=messages+1:=wrap64 aa aa;have c1:¬(ms.length:Int)+held>=dg:=aa;have vB:∀o,(σ.set bb o).f q=some (.cells [sV name,.slice b0 ms.length c0,iV held,iV last,cons].toArray 81 (0,0)):=λo=>(Hp.az Lt).trans bz;refine lO bz dE wl c1 wm ?_;refine bG 17 ?_;refine aG vB ?_;refine⟨dG vB,?_⟩;refine ag ?_;have eb:(Obj.cells (([.map (some mq),iV dg,iV messages,iV bh]:List Value).set 2 (.int .i64 (messages+1))).toArray 116)=gZ mq dg (messages+1) bh:=rfl;rw[eb];obtain⟨cZ,rB⟩:∃cZ,cZ=σ.set bb (gZ mq dg (messages+1) bh):=⟨_,rfl⟩;have jf:cZ.f q=some (.cells [sV name,.slice b0 ms.length c0,iV held,iV last,cons].toArray 81 (0,0)):=by rw[rB];exact vB _
 have eU:gB cZ ms rv:=by rw[rB];exact hr.set (by rw[hb];intro z h;simp[gZ]at h)
 rw[<-rB];refineλbn cz=>?_;have LJ:¬q=bn:=bp cz jf;have Dp:∀x,(cZ.set bn x).f q=some (.cells [sV name,.slice b0 ms.length c0,iV held,iV last,cons].toArray 81 (0,0)):=λx=>(Hp.az LJ).trans jf;have jV:∀x,cZ.le (cZ.set bn x):=λx y p h=>by rw[Hp.az (bp cz h)];exact h
 refine⟨dG Dp,?_⟩;refine ag ?_;refine NG (ms:=ms) (m:=⟨messages+1,key,body,false⟩) (v0:=rv) (bn:=bn) (eU.le (jV _)) ?_ ?_ aY aa ?_
 ·simp only[go_sem,seval];exact gT.symm
 ·exact au
 intro iU a o ha rp ho
 have da:¬a=bn/\(cZ.f a=none\/∃off n c z,rv=.slice (some ⟨a,off,none⟩) n c/\cZ.f a=some (.cells z 193 (0,0))):=by
  rcases ha with ha|⟨off,n,c,z,e1,e2⟩
  ·have n1:¬a=bn:=bp ha aY;exact⟨n1,.inl ((Hp.az n1).symm.trans ha)⟩
  ·have h1:∃z,cZ.f a=some (.cells z 193 (0,0)):=by
    rw[e1]at eU
    cases eU with
    |«at»_ pre pad _ _ _ h3=>exact⟨_,h3⟩
   obtain⟨z',RV⟩:=h1;exact⟨(bp cz RV),.inr ⟨off,n,c,z',e1,RV⟩⟩
 have LG:¬q=a:=λe=>by
  subst e;rcases da.2 with h|⟨_,_,_,_,_,h⟩
  ·rw[jf]at h;cases h
  ·rw[jf]at h;simp at h
 have Dm:∀x y,((cZ.set bn x).set a y).f q=some (.cells [sV name,.slice b0 ms.length c0,iV held,iV last,cons].toArray 81 (0,0)):=λx y=>(Hp.az LG).trans (Dp x);refine⟨dG Dm,?_⟩;obtain⟨b1,u9,aft⟩:=(rp _ (Hp.bD (σ:=σ) a o)).shape;subst aft;refine aG Dm ?_;refine⟨dG Dm,?_⟩
 have di:¬a=bb/\(σ.f a=none\/∃off n c z,rv=.slice (some ⟨a,off,none⟩) n c/\σ.f a=some (.cells z 193 (0,0))):=by
  have n1:¬a=bb:=λe=>by subst e;rcases da.2 with h|⟨_,_,_,_,_,h⟩<;>(rw[rB,Hp.bD]at h;simp[gZ]at h)
  refine⟨n1,?_⟩;rcases da.2 with h|⟨off,n,c,z,e1,h⟩
  ·left;rw[rB,Hp.az n1]at h;exact h
  ·right;rw[rB,Hp.az n1]at h;exact⟨off,n,c,z,e1,h⟩
 refine an aI ao ⟨by simp[up],_,a,o,di.2,ho,rp,?_⟩;rw[<-rB];exact gW (gW (jV _) _ _) _ _
def tG(q:Nat)(m:aX):Value:=.agg #[pV q,iV m.seq,sV m.key,sV m.body,.bool m.again]
def abq(hb:σ.f bb=some (gZ mq dg messages bh))(hm:σ.f mq=some (aU bR l k))(hl:dn l key=some (key,pV q,st)):
 ay E 287 #[pV bb,sV key] σ λe τ=>e=.returned (.tuple #[pV q,.nilIface])/\τ=σ:=by
 refine fI func287 ntmps287 results287 rfl al λQ aC an aA=>?_;simp only[gZ]at hb;refine aG hb ?_;refine jM (b:=mq) (k:=key) (l:=l) (c:=k) vN (z:=.pointer none) ah ?_ hm ?_ ?_
 ·exact au
 ·exact au
 have dk:((dn l key).map (·.2.1)).getD (.pointer none)=pV q:=by rw[hl];rfl
 simp only[go_sem,seval,dk,Bool.false_eq_true];exact an iT ao ⟨by simp[up],rfl⟩
@[go_sem] def ary{p q:Prop}{b:Bool}:lV p q b none=q:=by simp[lV]
@[go_sem] def aqN:B6 undef=none:=bl
def kJ(h:Nat)(no:Int)(tag:List UInt8)(q:Nat)(fe:Bool):Obj:=.cells [.iface 185 (pV h),iV no,sV tag,pV q,.bool fe].toArray 191 (0,0)
def Pb:ou prog 79 where
 e:=186
 z:=1
 zero:=#[.pointer none]
 bytes:=8
 hu:=ah
 hi:=⟨t186,.pointer none,ah,ah,ah,rfl,ah⟩
def Z1{cb h:Nat}{Ta:Int}{tag:List UInt8}{fe:Bool}{cv:Value}{cs:List Nat}(hb:σ.f bb=some (gZ mq dg messages bh))(hc:σ.f cb=some (kJ h Ta tag q fe))(hq:σ.f q=some (fw name rv held last cv))(hv:Sl 186 σ (cs.map pV) cv)(hn:cs.length<=1000)(b1:0<=bh/\bh<=1000000000000):
 ay E 290 #[pV bb,pV cb] σ λe τ=>e=.returned (.tuple #[])/\∃a pad,(σ.f a=none\/∃c,cv=.slice (some ⟨a,0,none⟩) cs.length c)/\
  ((((σ.set bb (gZ mq dg messages (bh+1))).set cb (kJ h (bh+1) tag q fe)).set a (.cells (cs.map pV++[pV cb]++pad).toArray 186 (0,0))).set q (fw name rv held last (.slice (some ⟨a,0,none⟩) (cs.length+1) (cs.length+1+pad.length)))).le τ:=by
 refine aW func290 ntmps290 results290 λQ aC an aA=>?_;have D3:¬cb=bb:=bp hc hb (by simp[gZ,kJ]);have Lt:¬q=bb:=bp hq hb (by simp[gZ,fw]);have D5:¬q=cb:=bp hq hc (by simp[kJ,fw]);have dE:=hb;have cA:=hc;have bz:=hq;simp only[gZ]at dE;simp only[kJ]at cA;simp only[fw]at bz;have w1:IntKind.i64.wrap (bh+1)=bh+1:=wrap64 aa aa;have bc:∀o,(σ.set bb o).f cb=_:=λo=>(Hp.az D3).trans cA;have OB:∀o p,((σ.set bb o).set cb p).f q=_:=λo p=>(Hp.az D5).trans ((Hp.az Lt).trans bz);refine bO dE w1 bc ?_;refine bG 17 ?_;refine aG OB ?_;have eb:(Obj.cells (([.map (some mq),iV dg,iV messages,iV bh]:List Value).set 3 (.int .i64 (bh+1))).toArray 116)=gZ mq dg messages (bh+1):=rfl;have ec:(Obj.cells (([.iface 185 (pV h),iV Ta,sV tag,pV q,.bool fe]:List Value).set 1 (.int .i64 (bh+1))).toArray 191)=kJ h (bh+1) tag q fe:=rfl;rw[eb,ec];obtain⟨iZ,sI⟩:∃iZ,iZ=(σ.set bb (gZ mq dg messages (bh+1))).set cb (kJ h (bh+1) tag q fe):=⟨_,rfl⟩;have gD:iZ.f q=some (.cells [sV name,rv,iV held,iV last,cv].toArray 81 (0,0)):=by rw[sI];exact OB _ _
 have dP:iZ.f cb=some (.cells [.iface 185 (pV h),iV (bh+1),sV tag,pV q,.bool fe].toArray 191 (0,0)):=by rw[sI];exact Hp.bD _ _
 have lH:Sl 186 iZ (cs.map pV) cv:=by
  cases hv with
  |nil h=>exact .nil h
  |«at»a pad ha=>
   refine .at a pad ?_;have n1:¬a=bb:=bp ha hb (by simp[gZ]);have n2:¬a=cb:=bp ha hc (by simp[kJ]);rw[sI,Hp.az n2,Hp.az n1];exact ha
 rw[<-sI];refineλbn cz=>?_;have LJ:¬q=bn:=bp cz gD;have Dp:∀x,(iZ.set bn x).f q=some (.cells [sV name,rv,iV held,iV last,cv].toArray 81 (0,0)):=λx=>(Hp.az LJ).trans gD;have jV:∀x,iZ.le (iZ.set bn x):=λx y p h=>by rw[Hp.az (bp cz h)];exact h
 have l8:=λx=>jV x _ _ dP;refine⟨iP Dp l8,?_⟩;refine ag ?_
 have hvn:∀x,Sl 186 (iZ.set bn x) (cs.map pV) cv:=λx=>by
  cases lH with
  |nil h=>exact .nil h
  |«at»a pad ha=>exact .at a pad (jV x _ _ ha)
 refine app1 Pb rfl ai (z0:=.pointer none) rfl ah (xs:=cs.map pV) (v0:=cv) (w:=pV cb) (bn:=bn) (hvn _) ?_ ?_ aY rfl (by simpa using(by omega:cs.length<=1000000)) ?_
 ·exact au
 ·exact au
 intro a pad ha
 have gp:¬a=bn/\(iZ.f a=none\/∃c,cv=.slice (some ⟨a,0,none⟩) cs.length c/\∃z,iZ.f a=some (.cells z 186 (0,0))):=by
  rcases ha with ha|⟨c,e1⟩
  ·have n1:¬a=bn:=bp ha aY;exact⟨n1,.inl ((Hp.az n1).symm.trans ha)⟩
  ·have h1:∃z,iZ.f a=some (.cells z 186 (0,0)):=by
    rw[e1]at lH
    cases lH with
    |«at»_ pad h3=>exact⟨_,h3⟩
   obtain⟨z,hz⟩:=h1;exact⟨(bp cz hz),.inr ⟨c,by simpa using e1,z,hz⟩⟩
 have LG:¬q=a:=λe=>by
  subst e;rcases gp.2 with h|⟨_,_,_,h⟩
  ·rw[gD]at h;cases h
  ·rw[gD]at h;simp at h
 have Dm:∀x y,((iZ.set bn x).set a y).f q=some (.cells [sV name,rv,iV held,iV last,cv].toArray 81 (0,0)):=λx y=>(Hp.az LG).trans (Dp x)
 have GX:¬cb=a:=λe=>by
  subst e;rcases gp.2 with h|⟨_,_,_,h⟩
  ·rw[dP]at h;cases h
  ·rw[dP]at h;simp at h
 have Qz:∀x y,((iZ.set bn x).set a y).f cb=some (.cells [.iface 185 (pV h),iV (bh+1),sV tag,pV q,.bool fe].toArray 191 (0,0)):=λx y=>(Hp.az GX).trans (l8 x);refine⟨dG Qz,?_⟩;refine aG Dm ?_;have hcq:∀x y z,(((iZ.set bn x).set a y).set q z).f cb=some (.cells [.iface 185 (pV h),iV (bh+1),sV tag,pV q,.bool fe].toArray 191 (0,0)):=λx y z=>(Hp.az (λe=>D5 e.symm)).trans (Qz x y);refine⟨dG hcq,?_⟩
 have eV:σ.f a=none\/∃c,cv=.slice (some ⟨a,0,none⟩) cs.length c:=by
  rcases gp.2 with h|⟨c,e1,_⟩
  ·left;have n1:¬a=cb:=λe=>GX e.symm;have n2:¬a=bb:=λe=>by subst e;rw[sI,Hp.az n1,Hp.bD]at h;cases h
   rw[sI,Hp.az n1,Hp.az n2]at h;exact h
  ·exact .inr ⟨c,e1⟩
 refine aC du ao ⟨rfl,a,pad,eV,?_⟩;rw[List.length_map,<-sI];exact gW (gW (jV _) _ _) _ _
def Sl.block{ety:TypeId}{xs:List Value}{a n:Nat}(h:Sl ety σ xs (.slice (some ⟨a,0,none⟩) n c)):∃z,σ.f a=some (.cells z ety (0,0)):=by
 generalize hv:Value.slice (some ⟨a,0,none⟩) n c=v at h
 cases h with
 |nil h=>cases hv
 |«at»b pad hb=>
  simp only[Value.slice.injEq,Option.some.injEq,Addr.mk.injEq]at hv;obtain⟨⟨rfl,_,_⟩,_,_⟩:=hv;exact⟨_,hb⟩
def HR.free(hr:HR)(n:Nat):Bool:=decide (hr.ng=0)||decide ((n:Int)<hr.ng)
structure gL where
 cb:Nat
 h:Nat
 no:Int
 tag:List UInt8
 fe:Bool
 free:Bool
def Vy(σ:Hp)(q:Nat)(x:gL):Prop:=σ.f x.cb=some (kJ x.h x.no x.tag q x.fe)/\∃c un co k no hr l,σ.f x.h=some (iu c no un co hr)/\σ.f un=some (aU aV l k)/\x.free=hr.free l.length
def gL.may(x:gL):Bool:=x.fe||x.free
def BG(xs:List gL)(last:Int):Option gL:=((xs.filter gL.may).find? λx=>decide (x.no>last)).or (xs.filter gL.may).head?
def qK:Option gL->Value
 |some x=>pV x.cb
 |none=>.pointer none
def aiq{p:Prop}{k:Value->Prop}{t:TypeId}{m:Option Nat}:nZ P p k t (.map m)=p:=by
 unfold nZ
 cases xy P t (.map m)<;>rfl
def abH{un co h:Nat}{no:Int}{hr:HR}{l:List (Int×Value×Nat)}(hh:σ.f h=some (iu c no un co hr))(hu:σ.f un=some (aU aV l k)):
 ay E 327 #[pV h] σ λe τ=>e=.returned (.bool (hr.free l.length))/\τ=σ:=by
 refine fI func327 ntmps327 results327 rfl al λQ aC an aA=>?_;simp only[iu,HR.vals]at hh;refine ag ?_;refine Al [0,1,2,3,4,5,6,7,8,9,11,12,13,14,10,15,16,17] ?_;by_cases h0:hr.ng=0
 ·refine bt hh h0 ?_;exact an aI ao ⟨by simp[up,HR.free,h0],rfl⟩
 ·refine bt hh h0 ?_;rw[aiq];refine GS A6 ?_ hu ?_
  ·exact au
  refine⟨dG hh,?_⟩;refine ag ?_;refine an aI ao ⟨?_,rfl⟩;simp[up,HR.free,h0]
end Go.Qw
