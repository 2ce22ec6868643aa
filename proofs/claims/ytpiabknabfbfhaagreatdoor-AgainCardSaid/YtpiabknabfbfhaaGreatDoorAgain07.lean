/- 7 -/
import Derived.Test.YtpiabknabfbfhaaGreatDoorRows
import Derived.Conc.LeavingOf
import Derived.LaidLaws
import Derived.LaidHandle
import Derived.Lay
import Derived.Lib.LaidTab
import Derived.Lib.LaidU8
import Derived.Lib.Props
import Derived.Test.YtpiabknabfbfhaaGreatDoorAgain06
set_option linter.all false
set_option maxRecDepth 100000
set_option maxHeartbeats 8000000
namespace Go.Qw
open Go Go.Conc Go.Proofs Go.Proofs.Tryz
def gE(f:FuncId)(caps:Array Value):Deferred:={target:=.fn (.func f) caps,args:=#[]}
variable {P:Program}{main:Bool}{cs:List Frame}{U:Hp}{fr:Frame}{df:FuncId}{caps:Array Value}{ds:List Deferred}
def aqn(hm:fr.mode=.returning)(hd:fr.defers=gE df caps::ds)(hg:ck P df=true):
 gZ P main (G fr cs) U λg ae=>ae=U/\g=G (Frame.enter P df caps .deferred) ({fr with defers:=ds}::cs):=by
 intro au2 w cU
 have h:wpS P (invoke (gE df caps).target (gE df caps).args) (λn ae=>n=.enter df caps/\ae=U) (λ_ _=>False) U:=by simp only[gE,invoke];refine IG hg ?_;simp
 obtain⟨w',ae,bY,e1,iH,eF,gp,hr⟩:=oL _ w U #[] h cU;rcases hr with⟨nx,hn,rfl,rfl⟩|⟨hh,hn,hq⟩
 ·have gF:((invoke (gE df caps).target (gE df caps).args).runT P w #[]).2=bY:=by simpa using e1
  have e2:(invoke (gE df caps).target (gE df caps).args).runT P w #[]=(_,bY):=Prod.ext hn gF;have iJ:∀fn,∀e∈seen P fn bY,iD au2 w'.heap.size e:=λfn e he=>gp e (mem_seen he);have qg:((gE df caps).target matches .nil)=false:=rfl
  have step:stepG P main (G fr cs) w=callDeferred P {fr with defers:=ds} cs none (gE df caps) w:=by simp only[G,stepG,hm,unwind,hd];rfl
  rw[step];unfold callDeferred;simp only[qg];generalize invoke (gE df caps).target (gE df caps).args=s at e2|-;simp only[e2,GStep.after];exact⟨_,iH,eF,λe he=>iJ _ e (aW he),rfl,rfl,rfl⟩
 ·exact hq.elim
variable {a:Act}{b:Frame}{k:List Item}{dst:Option Tmp}{cB:Array TypeId}{ty:TypeId}{pos:String}{af:Array Edge}{c:Frame}
def aql{ops:Array Oper}{i:Nat}{rest:List Nat}{gd:Option (Nat×Bool)}(ho:ops[i]? =some ⟨dst,.call ⟨.builtin .recover,#[],cB⟩,ty,pos,af,gd⟩)(hw:Region.wanted ⟨dst,.call ⟨.builtin .recover,#[],cB⟩,ty,pos,af,gd⟩ (yielded ops a.tmps)=true)(hb:b.kind=.deferred)(hc:c.mode=.returning):
 gZ P main (G (b.at a (.inRegion ops (i::rest)::k)) (c::cs)) U λg ae=>ae=U/\g=G (b.at (a.put dst .nilIface) (.inRegion ops rest::k)) (c::cs):=by
 intro au2 w hs
 have h:wpS P (execOp a.eval ⟨dst,.call ⟨.builtin .recover,#[],cB⟩,ty,pos,af,gd⟩) (λn ae=>n=.recover/\ae=U) (λ_ _=>False) U:=by simp only[execOp,resolve,aG,bt,invoke];exact⟨rfl,rfl⟩
 obtain⟨w',ae,bY,e1,cU,eF,gp,hr⟩:=oL _ w U #[] h hs;have gF:((execOp a.eval ⟨dst,.call ⟨.builtin .recover,#[],cB⟩,ty,pos,af,gd⟩).runT P w #[]).2=bY:=by simpa using e1
 rw[stepG_oper ho hw];have iJ:∀fn,∀e∈seen P fn bY,iD au2 w'.heap.size e:=λfn e he=>gp e (mem_seen he);have fC:(b.at a (.inRegion ops (i::rest)::k)).finish .nilIface=b.at (a.put dst .nilIface) (.inRegion ops rest::k):=by rw[Frame.finish_at,ho];rfl
 have LJ:tryRecover (b.at a (.inRegion ops (i::rest)::k)) (c::cs)=none:=by unfold tryRecover;simp only[Frame.at,hb,hc]
 rcases hr with⟨nx,hn,hq,rfl⟩|⟨hh,hn,hq⟩
 ·subst hq;have e2:(execOp a.eval ⟨dst,.call ⟨.builtin .recover,#[],cB⟩,ty,pos,af,gd⟩).runT P w #[]=(_,bY):=Prod.ext hn gF;generalize execOp a.eval _=s at e2|-;unfold stepG.apply;have Lz:(b.at a (.inRegion ops (i::rest)::k)).roundOf=none:=rfl;simp only[if_true,e2,Lz,LJ,GStep.after,fC];refine⟨_,cU,eF,λe he=>?_,rfl,rfl,rfl⟩;split at he
  ·simp[seen]at he
  ·simp only[Array.append_empty]at he;exact iJ _ e he
 ·exact hq.elim
def aqg{fn:Func}(hm:fr.mode=.returning)(hd:fr.defers=[])(hk:fr.kind=.deferred)(hc:c.mode=.returning)(hf:P.funcs[fr.fn]? =some fn)(hr:fn.results= #[]):
 gZ P main (G fr (c::cs)) U λg ae=>ae=U/\g=G c cs:=by
 intro au2 w hs
 have fp:∀tmps,wpS P (results fn tmps) (λv' ae=>v'=.tuple #[]/\ae=U) (λ_ _=>False) U:=by intro tmps;simp[results,hr,bt]
 obtain⟨w',ae,bY,e1,cU,eF,gp,Ed⟩:=oL (results fn fr.tmps) w U #[] (fp _) hs;rcases Ed with⟨v',hn,rfl,rfl⟩|⟨_,_,hq⟩
 ·have gF:((results fn fr.tmps).runT P w #[]).2=bY:=by simpa using e1
  have e2:(results fn fr.tmps).runT P w #[]=(.ok (.tuple #[]) w',bY):=Prod.ext hn gF
  have:stepG P main (G fr (c::cs)) w=.go (G c cs) w' (seen P fr.fn bY):=by simp[G,stepG,hm,unwind,hd,hf,-Sem.runT_eq,e2,doReturn,hk,GStep.after,hc]
  rw[this];exact⟨_,cU,eF,λe he=>gp e (mem_seen he),rfl,rfl,rfl⟩
 ·exact hq.elim
noncomputable def tY:Code:=f188.body.getD .skip
noncomputable def E2:Array Oper:=bN (bO tY)
noncomputable def LR:Code:=dT (aR tY)
def Ob:tY=.seq (.region 0 E2 false) (.block 0 LR):=ah
def AO:Frame:={(default:Frame)with fn:=188,kind:=.deferred}
def U4:∃ps af,E2[0]? =some {dst:=some 5,op:=.call ⟨.builtin .recover,#[],#[]⟩,type:=20,pos:=ps,after:=af,guard:=none}:=⟨_,_,by simp only[E2,tY,f188,Option.getD_some,bO,bN];rfl⟩
variable {E:Env prog}
def ab8{b3 b4:Nat}(hc:c.mode=.returning):
 ax E (G (Frame.enter prog 188 #[pV b3,pV b4] .deferred) (c::cs)) U λg J=>g=G c cs/\J=U:=by
 have pe:Frame.enter prog 188 #[pV b3,pV b4] .deferred=AO.at {tmps:=#[pV b3,pV b4]++Array.replicate 11 undef,defers:=[]} [.code tY]:=by simp[Frame.enter,Frame.at,func188,AO,f188,tY]
 rw[pe,Ob];have ha:=sQ #[pV b3,pV b4] 13 al;refine ax.ctl (λw=>stepG_seq) rfl rfl ?_;refine ax.ctl (λw=>stepG_region) rfl rfl ?_;have hr:List.range E2.size=[0]:=ah;rw[hr];obtain⟨ps,af,ho⟩:=U4;refine ax.step rfl (aql ho rfl rfl hc) ?_;rintro g J ⟨rfl,rfl⟩;have dn:cM 13 _ _ []:=ha.put (dst:=some 5) ai .nilIface;refine ax.ctl (λw=>stepG_region_end) rfl rfl ?_;refine(nT (E:=E) (N:=13) (X:=λI ds cf=>ds=[]/\cf=J) ?_ (by simp[AO]) dn).bind ?_
 ·simp only[LR,tY,f188,Option.getD_some,aR,dT];simp only[go_sem,seval,aB,up];exact⟨rfl,rfl⟩
 rintro g cf ⟨lO,_,a2,gH,⟨rfl,rfl⟩,rfl⟩;refine ax.ctl (λw=>stepG_end) rfl rfl ?_;refine ax.step rfl (aqg (fn:=f188) rfl gH.defers rfl hc func188 ah) ?_;rintro g nZ ⟨rfl,rfl⟩;exact ax.here ⟨rfl,rfl⟩
variable {I:av}{g:Option (Nat×Bool)}{nx:av->List Deferred->Hp->Prop}{pn:List PanicEntry->Hp->Prop}{E:Env P}
def ab7{t:Operand}(ht:ak I t=.func (.func df) #[] caps)(h:nx (aB I dst undef) (gE df caps::ds) U):aU E ⟨dst,.defer ⟨.value t,#[],cB⟩,ty,pos,af,g⟩ I ds U nx pn:=by show wpOp E _ I ds U nx pn;unfold wpOp;simp only[execOp,resolve,Deferred.ofValue,ht,aG,bt];have e1:(#[]++Array.map (ak I) #[]:Array Value)= #[]:=al;rw[e1];exact h
variable {J:Hp}{b:Nat}{e:TypeId}
def BL{v:Value}(h:J.f b=some (.cells #[v] e (0,0))):jh prog 45 ⟨b,0,none⟩ J=some v:=by unfold jh;rw[if_neg (by rw[Xw];simp)];simp[Hp.cell?,h]
variable {E:Env prog}{c:Nat}{u:Un}
def arj{R:Hp->Prop}(hg:u.kz=false)(hw:u.gm=false)(hk:u.kind≠8)(C8:ay E 107 #[pV c,uV u] U λe J=>e=.returned (.tuple #[])/\R J):
 ay E 59 #[pV c,uV u] U λe J=>e=.returned (.tuple #[])/\R J:=by
 refine aX func59 ntmps59 results59 λQ aD an aA=>?_;simp only[uV]at C8;simp only[go_sem,seval,uV];refineλb3 hU=>?_;have hle:∀o,U.le (U.set b3 o):=λo x p h=>by rw[Hp.az (bj h hU)];exact h
 have c8:¬u.kind=8:=hk;refine bR hg hw c8 ?_;rw[hg,hw]at C8;refine aK (C8.iQ (hle _)) ?_;rintro v J ⟨hv,hR⟩
 cases hv
 refine ag ?_;exact aD dA ao ⟨rfl,hR⟩
def ari(hg:u.kz=false)(hw:u.gm=false)(hk:u.kind=8):
 ay E 59 #[pV c,uV u] U λe J=>e=.returned (.tuple #[])/\J=U:=by
 refine fR func59 ntmps59 results59 rfl al λQ aD an aA=>?_;simp only[go_sem,seval,uV];refineλb3 hU=>?_;have hle:∀o,U.le (U.set b3 o):=λo x p h=>by rw[Hp.az (bj h hU)];exact h
 simp only[go_sem,seval,hg,hw,hk,decide_true];exact aD (J:=U) dA (hle _) ⟨rfl,rfl⟩
variable {cfg:kt}{last:Int}
def ark{g br mc chm k1 k2 k3:Nat}{clock id:Int}{cr:CR}(qe:u.kz=true)(hw:u.gm=false)(hg:U.f g=some (eP cfg br mc clock last))(hc:U.f c=some (fI g id chm cr))(e1:cfg.jq=k1)(e2:cfg.frame=k2)(e3:cfg.gD=k3)(l1:k1<100000)(l2:k2<100000)(l3:k3<100000)(eS:cr.out.length<=100000000000000):
 ay E 59 #[pV c,uV u] U λe J=>e=.returned (.tuple #[])/\J=U.set c (fI g id chm {cr with ph:=1,out:=cr.out++bK 0 10 30 [.short k1,.long k2,.short k3],iq:=clock}):=by
 refine fR func59 ntmps59 results59 rfl al λQ aD an aA=>?_;have vg:¬g=c:=bj hc hg (by simp[eP,fI]);have cF:=hc;have fD:=hg;simp only[fI,CR.vals]at cF;simp only[eP,e1,e2,e3]at fD;simp only[go_sem,seval,uV];refineλb3 hU=>?_;have nb:∀{x o},U.f x=some o->¬x=b3:=λh e=>by subst e;rw[hU]at h;cases h
 have lc:∀o,(U.set b3 o).f c=_:=λo=>(Hp.az (nb cF)).trans cF;have lg:∀o,(U.set b3 o).f g=_:=λo=>(Hp.az (nb fD)).trans fD;have wR:∀(H:Hp) (o:Obj),(H.set c o).f c=some o:=λ_ _=>Hp.bD _ _;have Mg:∀o o',((U.set b3 o).set c o').f g=_:=λo o'=>(Hp.az vg).trans (lg o);refine bR qe hw lc ?_;refine bG 30 ?_;refine bu wR Mg ?_;refineλba ib=>?_;have HJ:¬c=ba:=bj ib aZ;have nga:¬g=ba:=λe=>by subst e;rw[Mg]at ib;cases ib
 have TE:∀(H:Hp) (o o':Obj),((H.set c o).set ba o').f c=some o:=λ_ _ _=>(Hp.az HJ).trans aZ;have TK:∀o o' bW,(((U.set b3 o).set c o').set ba bW).f g=_:=λo o' bW=>(Hp.az nga).trans (Mg o o');refine⟨jg TE TK,?_⟩;refine ag ?_;refine aT (H9 (g:=g) (id:=id) (chm:=chm) (cr:={cr with ph:=1}) (ch:=0) (cl:=10) (me:=30) (xs:=[.short k1,.long k2,.short k3]) (cfg:=cfg) (br:=br) (mc:=mc) (clock:=clock) (last:=last) ?_ (TE _ _ _) (.inr ⟨ba,rfl,aZ⟩) ?_ al ai ai ai ?_ (by show cr.out.length<=_;omega)) ?_
 ·rw[TK];simp[eP,e1,e2,e3]
 ·simp[lh];omega
 ·simp[dg,eI,bJ]
 refine gf ?_;refine ag ?_;refine aD (J:=(U.set c (fI g id chm {cr with ph:=1,out:=cr.out++bK 0 10 30 [.short k1,.long k2,.short k3],iq:=clock}))) dA ?_ ⟨rfl,rfl⟩;intro x o hx;by_cases e:x=c
 ·subst e;rw[Hp.bD]at hx|-;exact hx
 ·rw[Hp.az e]at hx;have h5:∀o,(U.set b3 o).f x=_:=λo=>(Hp.az (nb hx)).trans hx;have:x≠ba:=λe'=>by subst e';rw[Hp.az e,h5]at ib;cases ib
  rw[Hp.az e,Hp.az this,Hp.az e];exact h5 _
def alb(c1:¬cfg.jq<1)(c2:¬cfg.jq>8)(c3:¬cfg.frame<64)(c4:¬cfg.frame>4096)(c5:¬cfg.gD<0)(c6:¬cfg.gD>50)(c7:¬cfg.queue<1)(c8:¬cfg.queue>50)(c9:¬cfg.body<0)(c10:¬cfg.body>10000):
 ay E 32 #[.agg cfg.vals.toArray] U λe J=>∃g br mq mc,e=.returned (.tuple #[pV g,.nilIface])/\U.f g=none/\U.f br=none/\U.f mq=none/\U.f mc=none/\br≠mq/\mc≠mq/\mc≠br/\g≠mq/\g≠br/\g≠mc/\
  J=(((U.set mq (aV bU [] 0)).set br (iw mq cfg.queue 0 0)).set mc (aV aY [] 0)).set g (eP cfg br mc 0 0):=by
 refine aX func32 ntmps32 results32 λQ aD an aA=>?_;simp only[go_sem,seval,kt.vals];refineλb1 jd=>?_;have lb:∀(H:Hp) (o:Obj),(H.set b1 o).f b1=some o:=λ_ _=>Hp.bD _ _;simp only[go_sem,seval,lb,c1,c2,c3,c4,c5,c6,c7,c8,c9,c10];refine NS 3 4 [0,1,2,3,4,5,6,7,8] [0,1,2,4,3,5,6,7,8] (λ_ _ _=>False) ah jb (λ_ _ _ _ h=>h.elim) ?_ ?_<;>simp only[iv,List.modify_toArray,List.modify_succ_cons,List.modify_zero_cons]
 ·refine aJ lb ?_;refine aK Uk ?_;rintro v J ⟨br,mq,hv,wC,Mt,qR,rfl⟩
  cases hv
  have Ua:¬b1=mq:=bj wC aZ;have T9:¬b1=br:=bj qR aZ;rw[Hp.az (λe=>Ua e.symm)]at wC;rw[Hp.az (λe=>T9 e.symm)]at qR;have l1:∀o o' bW,(((U.set b1 o).set mq o').set br bW).f b1=some o:=λo o' bW=>(Hp.az T9).trans ((Hp.az Ua).trans aZ);refine⟨dL l1,?_⟩;refine ag ?_;refineλmc nL=>?_;have Ui:¬mc=br:=bj nL aZ;rw[Hp.az Ui]at nL;have EM:¬mc=mq:=bj nL aZ;rw[Hp.az EM]at nL;have EL:¬mc=b1:=bj nL aZ;rw[Hp.az EL]at nL;have l2:∀o o' bW o3,((((U.set b1 o).set mq o').set br bW).set mc o3).f b1=some o:=λo o' bW o3=>(Hp.az (λe=>EL e.symm)).trans (l1 o o' bW);refine⟨dL l2,?_⟩;refine ag ?_;refine⟨dL l2,?_⟩;refine ag ?_;refineλg hg=>?_;have vg:¬g=mc:=bj hg aZ;rw[Hp.az vg]at hg;have EO:¬g=br:=bj hg aZ;rw[Hp.az EO]at hg;have EP:¬g=mq:=bj hg aZ;rw[Hp.az EP]at hg;have EN:¬g=b1:=bj hg aZ;rw[Hp.az EN]at hg;have l3:∀o o' bW o3 o4,(((((U.set b1 o).set mq o').set br bW).set mc o3).set g o4).f b1=some o:=λo o' bW o3 o4=>(Hp.az (λe=>EN e.symm)).trans (l2 o o' bW o3);refine⟨dL l3,?_⟩;refine ag ?_;refine an (J:=((((U.set mq (aV bU [] 0)).set br (iw mq cfg.queue 0 0)).set mc (aV aY [] 0)).set g (eP cfg br mc 0 0))) iO ?_ ⟨g,br,mq,mc,?_,hg,qR,wC,nL,Mt,EM,Ui,EP,EO,vg,rfl⟩
  ·exact ir (ir (ir (ir (λx p h=>by rw[Hp.az (bj h jd)];exact h) _ _) _ _) _ _) _ _
  ·simp[up]
 ·refine aJ lb ?_;refineλmc nL=>?_;have EL:¬mc=b1:=bj nL aZ;rw[Hp.az EL]at nL;have l0:∀o o',((U.set b1 o).set mc o').f b1=some o:=λo o'=>(Hp.az (λe=>EL e.symm)).trans aZ;refine⟨dL l0,?_⟩;refine ag ?_;refine aK Uk ?_;rintro v J ⟨br,mq,hv,wC,Mt,qR,rfl⟩
  cases hv
  have MK:¬mq=mc:=bj wC aZ;rw[Hp.az MK]at wC;have Ut:¬mq=b1:=bj wC aZ;rw[Hp.az Ut]at wC;have EK:¬br=mc:=bj qR aZ;rw[Hp.az EK]at qR;have Ug:¬br=b1:=bj qR aZ;rw[Hp.az Ug]at qR;have l1:∀o o' bW o3,((((U.set b1 o).set mc o').set mq bW).set br o3).f b1=some o:=λo o' bW o3=>(Hp.az (λe=>Ug e.symm)).trans ((Hp.az (λe=>Ut e.symm)).trans (l0 o o'));refine⟨dL l1,?_⟩;refine ag ?_;refine⟨dL l1,?_⟩;refine ag ?_;refineλg hg=>?_;have EO:¬g=br:=bj hg aZ;rw[Hp.az EO]at hg;have EP:¬g=mq:=bj hg aZ;rw[Hp.az EP]at hg;have vg:¬g=mc:=bj hg aZ;rw[Hp.az vg]at hg;have EN:¬g=b1:=bj hg aZ;rw[Hp.az EN]at hg;have l3:∀o o' bW o3 o4,(((((U.set b1 o).set mc o').set mq bW).set br o3).set g o4).f b1=some o:=λo o' bW o3 o4=>(Hp.az (λe=>EN e.symm)).trans (l1 o o' bW o3);refine⟨dL l3,?_⟩;refine ag ?_
  have KQ:∀(H:Hp) (o o' bW:Obj),(((H.set mc o).set mq o').set br bW)=(((H.set mq o').set br bW).set mc o):=by intro H o o' bW;rw[Hp.set_comm (a:=mc) (b:=mq) (λe=>MK e.symm),Hp.set_comm (a:=mc) (b:=br) (λe=>EK e.symm)]
  refine an (J:=((((U.set mq (aV bU [] 0)).set br (iw mq cfg.queue 0 0)).set mc (aV aY [] 0)).set g (eP cfg br mc 0 0))) iO ?_ ⟨g,br,mq,mc,?_,hg,qR,wC,nL,Mt,(λe=>MK e.symm),(λe=>EK e.symm),EP,EO,vg,rfl⟩
  ·rw[KQ];exact ir (ir (ir (ir (λx p h=>by rw[Hp.az (bj h jd)];exact h) _ _) _ _) _ _) _ _
  ·simp[up]
section
open Go.Extern
abbrev hT(t:Nat):Value:=.pointer (some ⟨4,t,none⟩)
abbrev rT(t:Nat):Value:=.iface 222 (.agg #[hT t])
variable {H:Halt->Hp->Prop}{QM:FuncId×Value->Hp->Prop}{t:Nat}
def AN:wpS prog (method (prog.types.size+Made.depth) 222 (.agg #[hT t]) "Kind") QM H U=QM (319,hT t) U:=ah
def Jt:wpS prog (method (prog.types.size+Made.depth) 222 (.agg #[hT t]) "Elem") QM H U=QM (335,.agg #[hT t]) U:=ah
def Ju:wpS prog (method (prog.types.size+Made.depth) 222 (.agg #[hT t]) "Implements") QM H U=QM (336,.agg #[hT t]) U:=ah
def F8:wpS prog (method (prog.types.size+Made.depth) 222 (.agg #[hT t]) "AssignableTo") QM H U=QM (333,.agg #[hT t]) U:=ah
def F9(z:Sem Value)(f:TypeId->Addr->Nat->Nat->Sem Value)(v:Value):
 ReflectliteValue.method z f #[v]=(do match<-ReflectliteValue.parts v with|none=>z|some (t,a,fl)=>f t a fl (fl % 32)):=rfl
def CH{a t:TypeId}{v:Value}(hg:dD prog t=false)(ha:U.f a=some (.cells #[v] e (0,0))):jh prog t ⟨a,0,none⟩ U=some v:=by unfold jh;rw[if_neg (by rw[hg];simp)];simp[Hp.cell?,ha]
def Pa(v x:Value):ReflectliteValue.set #[v,x]=(do
 let(some (dst,a,fl),some (src,b,_)):=(<-ReflectliteValue.parts v,<-ReflectliteValue.parts x)
  |unsupported (.noEntry "extern/(internal/reflectlite.Value).Set.zeroValue")
 if fl/ReflectliteValue.flagAddr % 2==0 then unsupported (.noEntry "extern/(internal/reflectlite.Value).Set.unaddressable")
 let val<-loadVar src b
 if<-Rtype.directlyAssignable dst src then storeVar dst a val
 else if<-Rtype.implements dst src then
  if(<-Rtype.kind src)==20 then
   match val with
   | .nilIface=>unsupported (.noEntry "extern/reflectlite: a nil value of one interface type handed on as a value of another")
   |_=>storeVar dst a val
  else storeVar dst a (.iface src val)
 else panicString ("reflectlite.Set: value of type " ++(<-Rtype.spelt src)++ " is not assignable to type " ++(<-Rtype.spelt dst))
 pure (.tuple #[])):=rfl
variable {E:Env P}
def ma{r:Operand}{name:String}{args:Array Operand}{t:TypeId}{v recv:Value}{f:FuncId}(hx:ak I r=.iface t v)(hm:∀(Q:FuncId×Value->Hp->Prop) (H:Halt->Hp->Prop),Q (f,recv) U->wpS P (method (P.types.size+Made.depth) t v name) Q H U)(h:kx E f (#[recv]++args.map (ak I)) U dst I ds nx pn):aU E ⟨dst,.call ⟨.invoke r name,args,cB⟩,ty,pos,af,g⟩ I ds U nx pn:=by
 show wpOp E _ I ds U nx pn;unfold wpOp
 have e1:(#[Value.iface t v]++args.map (ak I)).extract 1 (#[Value.iface t v]++args.map (ak I)).size=args.map (ak I):=by apply Array.ext';simp[List.take_of_length_le]
 have e2:(#[Value.iface t v]++args.map (ak I))[0]? =some (.iface t v):=by rw[Array.getElem?_append_left al];rfl
 simp only[execOp,resolve,hx,aG,bt,invoke,e2,callMethod,Av];refine hm _ _ ?_;rw[e1];exact h
def Fv:Extern.find f61=some (λargs=>ReflectliteValue.unpack (args.getD 0 (.tuple #[]))):=ah
def NZ:Extern.find f62=some (ReflectliteValue.methodAny (ReflectliteValue.valueError "reflectlite.Value.Type" 0) (λt _ _ _=>ReflectliteType.toType t)):=ah
def N0:Extern.find f63=some (ReflectliteValue.method (ReflectliteValue.valueError "reflectlite.Value.IsNil" 0) ReflectliteValue.isNil):=ah
def IK:Extern.find f113=some ReflectliteType.typeOf:=ah
def Wv:Extern.find f114=some (ReflectliteValue.method (ReflectliteValue.valueError "reflectlite.Value.Elem" 0) ReflectliteValue.elem):=ah
def Ww:Extern.find f115=some ReflectliteValue.set:=ah
def Cm:Extern.find f319=some (ReflectliteType.abiMethod λt=>(λa:Nat=>Value.int IntKind.u8 (a:Int))<$>Rtype.kind t):=ah
def IL:Extern.find f333=some (ReflectliteType.relation "AssignableTo" ReflectliteType.assignableTo):=ah
def NX:Extern.find f335=some (ReflectliteType.method ReflectliteType.elem):=ah
def NY:Extern.find f336=some (ReflectliteType.relation "Implements" ReflectliteType.implements_):=ah
end
def YX(i n:Nat):aw (i+1) n=(n/256^i).toUInt8::aw i n:=by unfold aw;rw[List.range_succ_eq_map,List.map_cons,List.map_map];congr 1;apply List.map_congr_left;intro j hj;simp only[Function.comp_def];have:i+1-1-(j+1)=i-1-j:=aa;rw[this]
variable {E:Env P}{k:Nat}{pad:List Value}
def aah{s d:TypeId}{x:Operand}{cap:Nat}{et:TypeId}(hs:P.underlying s=some (.slice e))(hd:P.underlying d=some .string)(he:P.underlying e=some (.int .u8))(hx:ak I x=.slice (some ⟨b,0,none⟩) 1 cap)(hb:U.f b=some (.cells (.int .u8 k::pad).toArray et (0,0)))(h:nx (aB I dst (.string (B [UInt8.ofNat k]))) ds U):wpOp E ⟨dst,.convert s d x,ty,pos,af,g⟩ I ds U nx pn:=by
 unfold wpOp;simp only[execOp,convert,aG,eu,hs,hd,hx,he,Conv.bytesToString,loadCells];refine IJ (a:=⟨b,0,none⟩) hb rfl 1 0 #[] _ al ?_
 have e1:(#[]++(.int .u8 (k:Int)::pad).toArray.extract ((⟨b,0,none⟩:Addr).off+0) ((⟨b,0,none⟩:Addr).off+0+1):Array Value)= #[.int .u8 (k:Int)]:=by apply Array.ext';simp
 rw[e1];exact h
variable {E:Env prog}{w:Nat}
def iM{n:Nat}(hw:w<=8)(hn:n<9223372036854775808):ay E 20 #[iV n,iV w] U λe J=>e=.returned (sV (aw w n))/\J=U:=by
 refine fR func20 ntmps20 results20 rfl al λQ aD an aA=>?_;refine ag ?_;refine di (λm I ds ae=>ds=[]/\U.le ae/\I 1=iV w/\∃i:Nat,i+m=w/\I 0=iV ((n/256^i:Nat):Int)/\I 5=sV (aw i n)/\I 6=iV i) w ?_ ?_
 ·refine⟨rfl,Hp.le_refl _,?_,0,al,?_,?_,?_⟩
  ·exact au
  ·simp only[go_sem,seval];simp
  ·exact au
  ·exact au
 ·rintro m I ds ae X ⟨rfl,hle,h1,i,xQ,h0,h5,h6⟩ hX
  cases m with
  |zero=>
   have c0:¬(i:Int)<w:=aa;obtain rfl:i=w:=aa;refine fV h1 h5 h6 c0 ?_;exact an (J:=U) aI hle ⟨by simp[up],rfl⟩
  |succ m=>
   have c0:(i:Int)<w:=aa;have wU:IntKind.u8.wrap ((n/256^i:Nat):Int)=(((n/256^i) % 256:Nat):Int):=by rw[IntKind.wrap_u8];omega
   have wS:yB .i64 ((n/256^i:Nat):Int) 8=((n/256^(i+1):Nat):Int):=by unfold yB;have e1:(8:Int).toNat=8:=rfl;have e2:min 8 IntKind.i64.bits=8:=rfl;rw[e1,e2,Nat.pow_succ,<-Nat.div_div_eq_div_mul,Int.natCast_ediv,show(2:Int)^8=((256:Nat):Int)from rfl,Int.fdiv_eq_ediv_of_nonneg _ aa];simp only[Int.natCast_ediv]
   have w1:=fQ i;refine lI h0 h1 h6 c0 wU ?_;refineλb hb=>?_;have ov:∀o,U.le (ae.set b o):=λo x p h=>by rw[Hp.az (bj hb (hle _ _ h))];exact hle _ _ h
   refine ag ?_;refine aah (e:=5) (b:=b) (cap:=1) (k:=(n/256^i) % 256) (pad:=[]) (et:=5) ah ah ah ?_ aZ ?_
   ·exact au
   have lb:1+(aw i n).length<=9223372036854775807:=by rw[bJ];omega
   have eB:[UInt8.ofNat ((n/256^i) % 256)]++aw i n=aw (i+1) n:=by
    rw[YX]
    have:UInt8.ofNat ((n/256^i) % 256)=(n/256^i).toUInt8:=by apply UInt8.toNat_inj.1;simp
    rw[this];rfl
   simp only[go_sem,seval,h0,h5,h6,lb,eB,wS,w1];refine hX m _ _ _ _ aa ⟨rfl,ov _,?_,i+1,aa,?_,?_,?_⟩ ao
   ·exact aQ h1
   ·exact au
   ·exact au
   ·exact au
def tI{s:List UInt8}(hs:s.length<=1000000):ay E 19 #[sV s] U λe J=>e=.returned (sV (aw 1 s.length++s))/\J=U:=by
 refine fR func19 ntmps19 results19 rfl al λQ aD an aA=>?_;refine ag ?_;refine aT (iM (n:=s.length) (w:=1) ai aa) ?_;have l1:(aw 1 s.length).length+s.length<=9223372036854775807:=by rw[bJ];omega
 refine aJ l1 ?_;exact an aI ao ⟨by simp[up],rfl⟩
variable {ch:Nat}{p:List UInt8}
def HD{kind:Nat}(hk:kind<1000)(hc:ch<100000)(hp:p.length<=1000000):ay E 21 #[iV kind,iV ch,sV p] U λe J=>e=.returned (sV (fK kind ch p))/\J=U:=by
 refine fR func21 ntmps21 results21 rfl al λQ aD an aA=>?_;refine ag ?_;refine aT (iM (n:=kind) (w:=1) ai aa) ?_;refine ag ?_;refine aT (iM (n:=ch) (w:=2) ai aa) ?_;refine ag ?_;refine aT (iM (n:=p.length) (w:=4) ai aa) ?_;have l1:(aw 1 kind).length+(aw 2 ch).length<=9223372036854775807:=by simp only[bJ];omega
 have l2:(aw 1 kind++aw 2 ch).length+(aw 4 p.length).length<=9223372036854775807:=by simp only[List.length_append,bJ];omega
 have l3:(aw 1 kind++aw 2 ch++aw 4 p.length).length+p.length<=9223372036854775807:=by simp only[List.length_append,bJ];omega
 have l4:(aw 1 kind++aw 2 ch++aw 4 p.length++p).length+1<=9223372036854775807:=by simp only[List.length_append,bJ];omega
 refine fV l1 l2 l3 l4 ?_;exact an aI ao ⟨by simp[up,fK],rfl⟩
variable {cl me:Nat}
def ajS(hc:ch<100000)(h1:cl<100000)(h2:me<100000)(hp:p.length<=100000):ay E 18 #[iV ch,iV cl,iV me,sV p] U λe J=>e=.returned (sV (fK 1 ch (aw 2 cl++aw 2 me++p)))/\J=U:=by
 refine fR func18 ntmps18 results18 rfl al λQ aD an aA=>?_;refine ag ?_;refine aT (iM (n:=cl) (w:=2) ai aa) ?_;refine ag ?_;refine aT (iM (n:=me) (w:=2) ai aa) ?_;have l1:(aw 2 cl).length+(aw 2 me).length<=9223372036854775807:=by simp only[bJ];omega
 have l2:(aw 2 cl++aw 2 me).length+p.length<=9223372036854775807:=by simp only[List.length_append,bJ];omega
 refine bu l1 l2 ?_;refine aT (HD (kind:=1) ai hc (by simp only[List.length_append,bJ];omega)) ?_;refine ag ?_;exact an aI ao ⟨by simp[up],rfl⟩
def fy(ch cl me:Nat)(p:List UInt8):List UInt8:=fK 1 ch (aw 2 cl++aw 2 me++p)
def vO(ch cl me:Nat)(p:List UInt8):(fy ch cl me p).length=p.length+12:=by simp[fy,kP,bJ];omega
def mG(h:Nat):List UInt8:=pW++fy 0 10 31 (aw 2 4++aw 4 64++aw 2 h)++fy 0 10 40 (aw 1 1++[47])++fy 1 20 10 (aw 1 0)++fy 1 50 10 (aw 1 1++[113])
def qm(hc:ch<100000)(h1:cl<100000)(h2:me<100000)(hp:p.length<=100000):ay E 18 #[iV ch,iV cl,iV me,sV p] U λe J=>e=.returned (sV (fy ch cl me p))/\J=U:=ajS hc h1 h2 hp
variable {h:Nat}
def af4(hh:h<=1000):ay E 38 #[iV h] U λe J=>e=.returned (sV (mG h))/\J=U:=by
 refine fR func38 ntmps38 results38 rfl al λQ aD an aA=>?_;refine ag ?_;refine aT (iM (n:=4) (w:=2) ai ai) ?_;refine ag ?_;refine aT (iM (n:=64) (w:=4) ai ai) ?_;refine ag ?_;refine aT (iM (n:=h) (w:=2) ai aa) ?_;have l1:(aw 2 4).length+(aw 4 64).length<=9223372036854775807:=ai;have l2:(aw 2 4++aw 4 64).length+(aw 2 h).length<=9223372036854775807:=by simp only[List.length_append,bJ];omega
 refine bu l1 l2 ?_;refine aT (qm (ch:=0) (cl:=10) (me:=31) ai ai ai (by simp only[List.length_append,bJ];omega)) ?_;have la:(fy 0 10 31 (aw 2 4++aw 4 64++aw 2 h)).length=20:=by rw[vO];simp[bJ]
 have lb:(fy 0 10 40 (aw 1 1++[47])).length=14:=by rw[vO];simp[bJ]
 have lc:(fy 1 20 10 (aw 1 0)).length=13:=by rw[vO];simp[bJ]
 have ld:(fy 1 50 10 (aw 1 1++[113])).length=14:=by rw[vO];simp[bJ]
 refine aJ la ?_;refine aT (tI (s:=[47]) ai) ?_;refine ag ?_;refine aT (qm (ch:=0) (cl:=10) (me:=40) (p:=aw 1 1++[47]) ai ai ai ai) ?_;refine bu la lb ?_;refine aT (tI (s:=[]) ai) ?_;refine ag ?_;refine aT (qm (ch:=1) (cl:=20) (me:=10) (p:=aw 1 0) ai ai ai ai) ?_;simp only[go_sem,seval,la,lb,lc,List.length_append];refine aT (tI (s:=[113]) ai) ?_;refine ag ?_;refine aT (qm (ch:=1) (cl:=50) (me:=10) (p:=aw 1 1++[113]) ai ai ai ai) ?_;simp only[go_sem,seval,la,lb,lc,ld,List.length_append];exact an aI ao ⟨by simp[up,mG,pW],rfl⟩
def yw(c n:Int):Int:=(if c<0 then-(c+1)else c).tmod n
def anf{c n:Int}(hn:0<n):0<=yw c n/\yw c n<n:=by
 unfold yw;have h0:0<=(if c<0 then-(c+1)else c):=by split<;>omega
 exact⟨Int.tmod_nonneg n h0,Int.tmod_lt_of_pos _ hn⟩
def MX{c n:Int}(hc: -9223372036854775808<=c/\c<=9223372036854775807)(hn:0<n/\n<=1000):ay E 14 #[iV c,iV n] U λe J=>e=.returned (iV (yw c n))/\J=U:=by
 refine fR func14 ntmps14 results14 rfl al λQ aD an aA=>?_;have nz:¬n=0:=aa;by_cases h0:c<0
 ·have w1:IntKind.i64.wrap (c+1)=c+1:=wrap64 aa aa;have w2:IntKind.i64.wrap (0-(c+1))= -(c+1):=cH;refine fV h0 w1 w2 nz ?_;exact an aI ao ⟨by simp[up,yw,h0],rfl⟩
 ·refine bu h0 nz ?_;exact an aI ao ⟨by simp[up,yw,h0],rfl⟩
def YZ(w n:Nat):aw (w+1) n=aw w (n/256)++[n.toUInt8]:=by
 unfold aw;rw[List.range_succ,List.map_append];congr 1
 ·apply List.map_congr_left;intro j hj;have hj:j<w:=aW hj;have e:w+1-1-j=(w-1-j)+1:=aa;rw[e,Nat.pow_succ,Nat.mul_comm,<-Nat.div_div_eq_div_mul]
 ·simp
def HP(w:Nat):∀n,n<256^w->num (aw w n)=n:=by
 induction w with
 |zero=>intro n h;simp at h;subst h;rfl
 |succ w ih=>
  intro n h;rw[YZ,Ux,ih (n/256) (by rw[Nat.pow_succ]at h;omega)];simp;omega
variable {l m:List UInt8}{n:Nat}
def It(h:l.length=n):(l++m).take n=l:=by subst h;simp
def Gk(h:l.length=n):(l++m).drop n=m:=by subst h;simp
def Aa{s:List UInt8}(h:n<256^w):fu w (aw w n++s)=some (n,s):=by unfold fu;rw[if_pos (by simp[bJ]),It (bJ w n),Gk (bJ w n),HP w n h]
def Um{rest:List UInt8}{size:Int}(hk:k<256)(hc:ch<65536)(hp:p.length<4294967296)(hw:(if k=1\/k=2\/k=3 then decide ((p.length:Int)>size-8)else if k=8 then decide (p.length>0\/ch≠0)else true)=false):
 dz true (fK k ch p++rest) size=(⟨k,ch,p,false,false⟩,true,rest):=by
 have e1:fK k ch p++rest=aw 1 k++(aw 2 ch++(aw 4 p.length++(p++(206::rest)))):=by simp[fK]
 have t1:(fK k ch p++rest).take 1=aw 1 k:=by rw[e1];exact It (bJ 1 k)
 have d1:(fK k ch p++rest).drop 1=aw 2 ch++(aw 4 p.length++(p++(206::rest))):=by rw[e1];exact Gk (bJ 1 k)
 have d3:(fK k ch p++rest).drop 3=aw 4 p.length++(p++(206::rest)):=by
  have:(fK k ch p++rest).drop 3=((fK k ch p++rest).drop 1).drop 2:=by rw[List.drop_drop]
  rw[this,d1];exact Gk (bJ 2 ch)
 have d7:(fK k ch p++rest).drop 7=p++(206::rest):=by
  have:(fK k ch p++rest).drop 7=((fK k ch p++rest).drop 3).drop 4:=by rw[List.drop_drop]
  rw[this,d3];exact Gk (bJ 4 _)
 have hl:¬(fK k ch p++rest).length<7:=by rw[e1];simp[bJ];omega
 have n1:num (aw 1 k)=k:=HP 1 k hk;have n2:num (aw 2 ch)=ch:=HP 2 ch hc;have n4:num (aw 4 p.length)=p.length:=HP 4 _ hp;unfold dz;rw[if_neg ai,if_neg hl];simp only[t1,d1,d3,d7,It (bJ 2 ch),It (bJ 4 p.length),n1,n2,n4,hw];rw[if_neg al,if_neg al]
 have z:(p++206::rest).drop (p.length+1)=rest:=by rw[<-List.drop_drop];simp
 have y:(p++206::rest).drop p.length=206::rest:=al;simp only[z,y,List.take_left];simp[num]
def aln(size:Int):dz true [] size=(⟨0,0,[],false,false⟩,true,[]):=by simp[dz]
abbrev tT(W:World)(φ:Hp):Env prog:=(solo prog W).frame φ
def ade(F:FS){W:World}{φ:Hp}{a:F.γ}{ch:List UInt8}(gq:F.oH a ch)(hI:F.au1 a U)(hp:F.ph a≠5)(hn:ch.length<=4611686018427387904):
 ay (tT W φ) 40 #[pV F.bc,.string (B ch)] U λe J=>e=.returned (.tuple #[])/\∃a',F.Loop (F.add a ch) a'/\F.au1 a' J:=by
 rintro cs m T ⟨d,hm⟩;obtain⟨N,m',T',g',J,h1,h2,e,fr,rfl,hf,hl,rfl,a',ae,k1,k2,k3,rfl⟩:=adb F (W:=W) (φ0:=φ) gq hI d hp hn cs m T hm;refine⟨N,m',T',_,ae,h1,⟨k3,h2⟩,_,fr,rfl,hf,?_,rfl,a',k1,k2⟩;obtain⟨a1,a2,a3,fn,a4,a5⟩:=hl;refine⟨a1,a2,a3,fn,a4,?_⟩;rw[hf,func40]at a4;obtain rfl:=Option.some.inj a4;simp[results,bt]at a5|-
section
open Go.ChangeShapes Go.WideShapes Go.ChangeAt Go.RowKit Go.Lib
open Go.Proofs.YtpiabknabfbfhaaGreatDoor
def u9:List (String×DataW Unit):=[("errors.errorType",Rows.laid_errors_errorType),("unicode.properties",Rows.laid_unicode_properties),("unicode.Digit",Rows.laid_unicode_Digit),("unicode.Letter",Rows.laid_unicode_Letter)]
def u0:List (String×DataW Unit):=[("unicode.properties",Rows.laid_unicode_properties),("unicode.Digit",Rows.laid_unicode_Digit),("unicode.Letter",Rows.laid_unicode_Letter)]
def TD:(u9.filter λx=>x.2.handleName?.isNone)=u0:=ah
def L8:(u9.filter λx=>x.2.handleName?.isSome)=[("errors.errorType",Rows.laid_errors_errorType)]:=ah
def own:ownKnob prog.godebug=none:=ah
def adT:prog.globalNamed "errors.errorType" =some 0:=ah
def Q7:prog.globalNamed "unicode.properties" =some 1:=ah
def ao4:(prog.cutTypes.find? (·.1== "internal/reflectlite.rtype")).map (·.2)=some 222:=ah
def arb:prog.types.size=437:=ah
def amA:((List.range 437).filter λt=>prog.rowNamed t [101,114,114,111,114])=[45]:=ah
def afk:typeHandle prog 45=hT 45:=ah
def ank:Rows.laid_unicode_properties (H:=Unit)=tabData .u8 propertiesTab:=ah
variable {W:World}
def ajP(h:laidMetH prog u9 W):W.var? prog "errors.errorType" =some #[rT 45]:=by unfold laidMetH at h;rw[L8]at h;obtain⟨name,u,ty,e1,e2,e3,e4,e5⟩:=h.2 _ (List.mem_singleton.2 rfl);have en:name=[101,114,114,111,114]:=(Option.some.inj e1).symm;subst en;obtain rfl:=Option.some.inj (ao4.symm.trans e2);have hm:ty∈(List.range 437).filter λt=>prog.rowNamed t [101,114,114,111,114]:=List.mem_filter.2 ⟨List.mem_range.2 (by rw[<-arb];exact e3),e4⟩;rw[amA]at hm;obtain rfl:=List.mem_singleton.1 hm;rw[afk]at e5;exact e5
def ajR(h:laidMetH prog u9 W):TabIs prog W "unicode.properties" .u8 propertiesTab:=by unfold laidMetH at h;rw[L8,TD]at h;have h1:=h.1;unfold u0 at h1;rw[ank]at h1;exact tabIs_of_head (t:=396) (e:=5) (n:=256) Q7 ah ah ah ah ah h1
def asm:((begin prog (λ_ _=>0) default).world.heap[0]?).bind Obj.row?=some (#[.nilIface],143):=ah
def asn:∃z,((begin prog (λ_ _=>0) default).world.heap[1]?).bind Obj.row?=some (z,396):=⟨(((begin prog (λ_ _=>0) default).world.heap[1]?).bind Obj.row?).elim #[] (·.1),ah⟩
def ajQ(hs:W.ShapedOpen prog)(h:laidMetH prog u9 W):
 W.heap[0]? =some (.cells #[rT 45] 143 (0,0))/\W.heap[1]? =some (.cells (propertiesTab.map λz=>Value.int .u8 z).toArray 396 (0,0)):=by
 constructor
 ·obtain⟨cs,h1,_,_⟩:=hs.1 0 _ _ (of_decide_eq_true ah) asm;have h2:=ajP h;unfold World.var? at h2;rw[adT]at h2;simp only[Option.bind_some,h1]at h2;rw[h1,Option.some.inj h2]
 ·obtain⟨z,hz⟩:=asn;obtain⟨cs,h1,_,_⟩:=hs.1 1 _ _ (of_decide_eq_true ah) hz;have h2:=ajR h;unfold TabIs World.var? at h2;rw[Q7]at h2;simp only[Option.bind_some,h1]at h2;rw[h1,Option.some.inj h2]
noncomputable def RS(os:Os):World:=
 let w0:=World.holding prog os ⟨#[],#[],[]⟩
 {w0 with heap:=w0.heap.modify 0 λ
  | .cells _ t frozen=>.cells #[rT 45] t frozen
  |o=>o}
noncomputable def En(os:Os):World:=(RS os).layVars prog u0
def ajN(os:Os):(En os).os=os:=World.layVars_os _ _ _
def L6:(u0.filter λx=>(u0.map (·.1)).contains x.1)=u0:=ah
def ajL:(u0.filter λx=> !(u0.map (·.1)).contains x.1)=[]:=ah
def ajM(os:Os)(args:Array Value):laidMetH prog u9 ((En os).forCall (λ_ _=>0) ⟨#[],args,[]⟩).memory:=by
 refine laidMetH_of_parts ?_ ?_
 ·rw[TD];have h:laidMet prog u0 (En os):=laidMet_layVars (w0:=RS os) (u0.map (·.1)) [] (by rw[L6];rfl) (by rw[L6];kernel_rfl) (by rw[L6];kernel_rfl) (by rw[ajL];exact LaidIn.none);exact h.of_heap (by simp[World.memory,World.forCall,Input.heap])
 ·rw[L8]
  kernel_rfl
def ajO(os:Os)(args:Array Value):((En os).forCall (λ_ _=>0) ⟨#[],args,[]⟩).Shaped prog:=World.shaped_of_ZipB ah ah
variable {f:FuncId}{fn:Func}
def ao5{Iy:Tmp}{args:Array Value}{v0:Value}(D:Nat->Prop)(hi:prog.inits.idxOf? f=none)(rV:prog.funcs[f]? =some fn)(fp:fn.results= #[.tmp Iy])(h:∀φ,ay (tT W φ) f args ((⟨λb=>W.heap[b]?⟩:Hp).only D) λe J=>e=.returned v0/\∀b,D b->J.f b=W.heap[b]?):
 ∃N last o w' t',runNT prog (N+1) (Conc.solo (G (Frame.enter prog f args .normal) []) W) #[]=(.ended o w',t')/\runN prog N (Conc.solo (G (Frame.enter prog f args .normal) []) W)=.next last/\step prog last=.ended o w'/\
  Conc.Good prog (λv w'=>v=v0/\Below W.heap.size W w') last o w' t':=by
 have hd:=Hp.amD (⟨λb=>W.heap[b]?⟩:Hp) D;have h1:=(h _).kQ hd;rw[Hp.amF]at h1;refine apT (R:=λv ae=>v=v0/\(⟨λb=>W.heap[b]?⟩:Hp).le ae) hi rV fp (h1.mono ?_) ?_
 ·rintro e J ⟨ae,jH,rfl,rfl,hk⟩;refine⟨v0,rfl,rfl,λb o hb=>?_⟩;by_cases hD:D b
  ·exact Hp.jT ((hk b hD).trans hb)
  ·refine Hp.vc jH b o (Hp.HT (D:=λb=>¬D b) hb hD)
 ·rintro v ae au2 w' ⟨rfl,hle⟩ hs hf
  have hb:∀k,k<W.heap.size->w'.heap[k]? =W.heap[k]? :=by intro k hk;obtain⟨o,ho⟩:∃o,W.heap[k]? =some o:=⟨_,Array.getElem?_eq_getElem hk⟩;rw[ho];exact hs.heap (hle k o ho)
  refine⟨rfl,hf.os,hf.tape,hf.output,?_,hb⟩;by_cases h0:W.heap.size=0
  ·omega
  ·have:=hb (W.heap.size-1) aa;have bl:W.heap.size-1<W.heap.size:=aa;rw[Array.getElem?_eq_getElem bl]at this;have:=(Array.getElem?_eq_some_iff.1 this).1;omega
def aj5{H:Type}{enc:TypeId×Value->H}{a:Assume}{C:Checked}{os:Os}{s:ChangeSpec}{conds:List PathCond}{apart fresh handsOn again:Bool}{X:World->Array Value->Prop}(hX:∀(w w':World) (args:Array Value),w.heap=w'.heap->X w args->X w' args)(own:ownKnob C.prog.godebug=none)(started:os.Started)(rV:C.prog.funcs[f]? =some fn)(witness:∃(w:World) (tape:Tape) (i:Input),w.os=os/\(w.forCall tape i).Shaped C.prog/\i.vars=[]/\Input.okWide C.prog (w.forCall tape i) .any w.heap.size f i/\
  ((s.pre enc C.prog fn conds apart (w.forCall tape i).memory i.args/\X (w.forCall tape i).memory i.args)/\sizedMet enc C.prog fn (OpenSpec.ofChange s) apart (w.forCall tape i).memory i.args)/\a.holds C.prog (lone (Frame.enter C.prog f i.args .normal) [] (w.forCall tape i)))(runs:∀(W:World) (base:Nat) (args:Array Value) (ds gs:List (DataW H)) (before:List MemPlace),W.ShapedOpen C.prog->
  (∀(j:Nat) t v,fn.params[j]? =some t->args[j]? =some v->Value.okWide C.prog W .any base t v)->
  DataW.Whole enc C.prog fn.params.toList s.vars apart W args.toList ds gs before->
  (DataW.weightsEach C.prog (fn.params.toList++s.plain.varTypes C.prog) (ds++gs)).all (·<=reachBytes)=true->X W args->
  ∃M last o w' t',runNT C.prog (M+1) (Conc.solo (G (Frame.enter C.prog f args .normal) []) W) #[]=(.ended o w',t')/\runN C.prog M (Conc.solo (G (Frame.enter C.prog f args .normal) []) W)=.next last/\
   step C.prog last=.ended o w'/\Conc.Good C.prog (λv W'=>s.post enc C.prog fn apart fresh handsOn again W args v W') last o w' t'):
 ReturnsInLeavingWide a C os f .any (λw args=>(s.pre enc C.prog fn conds apart w args/\X w args)/\sizedMet enc C.prog fn (OpenSpec.ofChange s) apart w args) (s.post enc C.prog fn apart fresh handsOn again):=by
 refine returnsInLeavingWide_of_good own started witness ?_;intro w tape i _ xX _ gq ahc _;obtain⟨_,_,_,C6,DG,_,_,_,_,de⟩:=gq;obtain rfl:C6=fn:=Option.some.inj (DG.symm.trans rV);obtain⟨⟨⟨ds,gs,before,hw,_⟩,hx⟩,hz⟩:=ahc;have jx:=DataW.Whole.of_heap (w':=w.forCall tape i) (by rfl) hw;obtain⟨M,last,o,w',t',h1,h2,h3,h4⟩:=runs (w.forCall tape i) w.heap.size i.args ds gs before xX de jx (hz.weights hw) (hX _ _ _ (by rfl) hx);exact⟨M,last,o,w',t',h1,h2,h3,h4.mono λv hp=>ChangeSpec.post_blind hp⟩
end
structure aM where
 seq:Int
 key:List UInt8
 body:List UInt8
 again:Bool
def aM.vals(m:aM):List Value:=[iV m.seq,sV m.key,sV m.body,.bool m.again]
def aM.v(m:aM):Value:=.agg #[iV m.seq,sV m.key,sV m.body,.bool m.again]
def bd(ms:List aM):List Value:=ms.flatMap aM.vals
def pC(ms:List aM):(bd ms).length=4*ms.length:=by
 induction ms with
 |nil=>rfl
 |cons m ms ih=>simp only[bd,List.flatMap_cons,List.length_append,List.length_cons]at ih|-;rw[ih];simp[aM.vals];omega
inductive gN (U:Hp) (ms:List aM):Value->Prop
 |none:ms=[]->gN U ms (.slice Option.none 0 0)
 |at(a:Nat) (pre pad:List Value) (c:Nat):ms.length<=c->4*(c-ms.length)<=pad.length->U.f a=some (.cells (pre++bd ms++pad).toArray 193 (0,0))->gN U ms (.slice (some ⟨a,pre.length,Option.none⟩) ms.length c)
variable {ms:List aM}
def gN.le{v:Value}(h:gN U ms v)(k:U.le J):gN J ms v:=by
 cases h with
 |none h=>exact .none h
 |«at»a pre pad c h1 h2 h3=>exact .at a pre pad c h1 h2 (k _ _ h3)
variable {t:TypeId}
def Vi{a u:Tmp}{v:Value}(ha:I a=pV b)(ht:dt P t=true)(h:jh P t ⟨b,0,none⟩ J=some v):lR P #[.cell a t,.tmp u] I J (.tuple #[v,I u]):=by unfold lR;have h2:=wT (Q:=λv' ae=>v'=v/\ae=J) (H:=λ_ _=>False) ht (va h ⟨rfl,rfl⟩);simp only[aG,bt,asAddr];simp[ha];have e:((λx=>#[x,I u])<$>loadVar t ⟨b,0,none⟩:Sem (Array Value))=(loadVar t ⟨b,0,none⟩>>=λx=>pure #[x,I u]):=rfl;rw[e,aG];refine NU ?_ (λ_ _ h=>h) _ _ h2;rintro v' ae ⟨rfl,rfl⟩;simp[bt]
def aqw:cD prog 193=4:=ah
def XI:dD prog 193=true:=ah
variable {pre:List Value}{m:aM}{e:Nat}
def HA(h:J.f b=some (.cells (pre++m.vals++pad).toArray e (0,0))):jh prog 193 ⟨b,pre.length,none⟩ J=some m.v:=by unfold jh;rw[if_pos XI,aqw];simp[cellsOf,h,aM.vals,aM.v]
def MP{x:Option Obj}{o:Nat}{k:Value->Prop}(hx:x=some (.cells (pre++m.vals++pad).toArray e (0,0)))(ho:o=pre.length)(hk:k m.v):tL (cellsIn o 4 k) x:=by
 subst hx ho;rw[UE,aaT];refine⟨by simp[aM.vals],?_⟩;have:((pre++m.vals++pad).toArray.extract pre.length (pre.length+4))= #[iV m.seq,sV m.key,sV m.body,.bool m.again]:=by simp[aM.vals]
 rw[this];exact hk
variable {q:Nat}{name:List UInt8}{held:Int}
def ali{b:Option Addr}{cons:Value}(hq:U.f q=some (fM name (.slice b 0 c) held last cons)):
 ay E 90 #[pV q] U λe J=>e=.returned (.tuple #[(⟨0,[],[],false⟩:aM).v,.bool false])/\U.le J:=by
 refine aX func90 ntmps90 results90 λQ aD an aA=>?_;simp only[fM]at hq;refine ag ?_;refineλb2 fO=>?_;have nq:¬q=b2:=bj fO hq;have gP:∀o,(U.set b2 o).f q=some (.cells [sV name,.slice b 0 c,iV held,iV last,cons].toArray 81 (0,0)):=λo=>(Hp.az nq).trans hq;have z0:((0:Nat):Int)=0:=rfl;refine bu gP z0 ?_;have hle:∀o,U.le (U.set b2 o):=λo x p h=>by rw[Hp.az (bj fO h)];exact h
 refine an (Vi (b:=b2) (v:=(⟨0,[],[],false⟩:aM).v) (by simp[up]) Tq (HA (pre:=[]) (pad:=[]) aZ)) ao ⟨by simp[up],hle _⟩
variable {rv:Value}
def alh{cons:Value}(hq:U.f q=some (fM name rv held last cons))(hm:gN U (m::ms) rv)(hn:ms.length<=1000):
 ay E 90 #[pV q] U λe J=>e=.returned (.tuple #[m.v,.bool true])/\∃jj,gN U ms jj/\(U.set q (fM name jj held last cons)).le J/\∃(a off UF n n' c c':Nat),rv=.slice (some ⟨a,off,none⟩) n c/\jj=.slice (some ⟨a,UF,none⟩) n' c':=by
 refine aX func90 ntmps90 results90 λQ aD an aA=>?_;simp only[fM]at hq
 cases hm with
 |none h=>cases h
 |«at»a pre pad c h1 h2 h3=>
 obtain⟨n,uH⟩:∃n,n=(m::ms).length:=⟨_,rfl⟩;obtain⟨o,ho⟩:∃o,o=pre.length:=⟨_,rfl⟩;rw[<-uH,<-ho]at hq;have xW:n=ms.length+1:=by rw[uH];rfl
 refine ag ?_;refineλb2 fO=>?_;have nq:¬q=b2:=bj fO hq;have na:¬a=b2:=bj fO h3;have naq:¬a=q:=λe=>by subst e;rw[hq]at h3;simp at h3
 have gP:∀x,(U.set b2 x).f q=some (.cells [sV name,.slice (some ⟨a,o,none⟩) n c,iV held,iV last,cons].toArray 81 (0,0)):=λx=>(Hp.az nq).trans hq;have z0:¬((n:Nat):Int)=0:=aa
 have lW:jh prog 193 ⟨a,o,none⟩ U=some m.v:=by rw[ho];exact HA (e:=193) (pad:=bd ms++pad) (by rw[h3];simp[bd])
 have fY:∀x,jh prog 193 ⟨a,o,none⟩ (U.set b2 x)=some m.v:=λx=>by rw[ho];exact HA (e:=193) (pad:=bd ms++pad) (by rw[Hp.az na,h3];simp[bd])
 have qU:(0:Int)<=0/\(0:Int)<n:=aa;refine bu gP z0 ?_;refine⟨qU.2,?_⟩;refine ag ?_;refine MP (pre:=pre) (pad:=bd ms++pad) (m:=m) (e:=193) (by rw[Hp.az na,h3];simp[bd]) ho ?_;refineλb3 hU=>?_;have Uu:¬q=b3:=λe=>by subst e;rw[gP]at hU;cases hU
 have nb:¬b3=b2:=bj hU aZ;have lX:∀x y,((U.set b2 x).set b3 y).f q=some (.cells [sV name,.slice (some ⟨a,o,none⟩) n c,iV held,iV last,cons].toArray 81 (0,0)):=λx y=>(Hp.az Uu).trans (gP _);have afs:∀x y,((U.set b2 x).set b3 y).f b2=some x:=λx y=>(Hp.az (λe=>nb e.symm)).trans aZ;have G5:n<=c:=by rw[uH];exact h1
 simp only[go_sem,seval,lX,aM.v];refine⟨aa,?_⟩;have iH:∀x y z,(((U.set b2 x).set b3 y).set q z).f b2=some x:=λx y z=>(Hp.az (λe=>nq e.symm)).trans (afs _ _);have Ee:∀x y z,(((U.set b2 x).set b3 y).set q z).f b3=some y:=λx y z=>(Hp.az (λe=>Uu e.symm)).trans aZ;refine bR lX iH Ee ?_
 obtain⟨jj,ik,uG⟩:∃jj,jj=Value.slice (if c=1 then some ⟨a,o,none⟩else some ⟨a,o+4,none⟩) (n-1) (c-1)/\gN U ms jj:=by
  refine⟨_,rfl,?_⟩;have e1:n-1=ms.length:=aa;rw[e1];by_cases cG:c=1
  ·rw[if_pos cG,ho];have:ms.length=0:=aa;have G1:ms=[]:=List.length_eq_zero_iff.1 this;subst G1;exact .at a pre (m.vals++pad) (c-1) al (by simp;omega) (by rw[h3];simp[bd])
  ·rw[if_neg cG];have e2:o+4=(pre++m.vals).length:=by rw[ho];simp[aM.vals]
   rw[e2];have lr:4*(c-n)<=pad.length:=by rw[uH];exact h2
   exact .at a (pre++m.vals) pad (c-1) aa aa (by rw[h3];simp[bd])
 rw[<-ik];refine an (Vi (b:=b2) (v:=m.v) (by simp[up]) Tq (HA (pre:=[]) (pad:=[]) (m:=m) (e:=193) aZ)) ao ⟨by simp[up],jj,uG,?_,?_⟩
 rotate_left
 ·by_cases cG:c=1
  ·exact⟨a,pre.length,o,_,_,c,_,rfl,by rw[ik,if_pos cG]⟩
  ·exact⟨a,pre.length,o+4,_,_,c,_,rfl,by rw[ik,if_neg cG]⟩
 intro x p hx;by_cases zP:x=q
 ·subst zP;rw[Hp.bD]at hx;rw[Hp.az nq,Hp.bD,<-hx];rfl
 ·rw[Hp.az zP]at hx;have n2:¬x=b2:=bj hx fO;have n3:¬x=b3:=λe=>by subst e;rw[Hp.az nb,hx]at hU;cases hU
  rw[Hp.az n2,Hp.az zP,Hp.az n3,Hp.az n2];exact hx
def iU:oN prog 78 where
 e:=193
 z:=4
 zero:=#[.int .i64 0,.string (B []),.string (B []),.bool false]
 bytes:=48
 hu:=ah
 hi:=⟨t193,.agg #[.int .i64 0,.string (B []),.string (B []),.bool false],ah,ah,ah,rfl,ah⟩
def gN.shape{v:Value}(h:gN U ms v):∃b c,v=.slice b ms.length c:=by
 cases h with
 |none h=>subst h;exact⟨_,_,rfl⟩
 |«at»a pre pad c h1 h2 h3=>exact⟨_,_,rfl⟩
def gN.set{v:Value}(h:gN U ms v){x:Nat}{o:Obj}(hx:∀z,U.f x≠some (.cells z 193 (0,0))):gN (U.set x o) ms v:=by
 cases h with
 |none h=>exact .none h
 |«at»a pre pad c h1 h2 h3=>exact .at a pre pad c h1 h2 ((Hp.az (λe=>by subst e;exact hx _ h3)).trans h3)
def asl(k:Nat):(Builtin.zeroCells iU.zero k).size=k*4:=by simp[Builtin.zeroCells,iU]
def FA(k:Nat):(Builtin.zeroCells iU.zero k).toList.length=k*4:=by rw[<-asl,Array.length_toList]
def T0(ms:List aM)(m:aM):bd (ms++[m])=bd ms++m.vals:=by simp[bd]
variable {y:Operand}
def OX{x:Operand}{v0:Value}{bn:Nat}(hv:gN U ms v0)(hx:ak I x=v0)(hy:ak I y=.slice (some ⟨bn,0,none⟩) 1 1)(cE:U.f bn=some (.cells #[iV m.seq,sV m.key,sV m.body,.bool m.again] 193 (0,0)))(fZ:ms.length<=1000000)(h:∀rv a o,(U.f a=none\/∃off n c z,v0=.slice (some ⟨a,off,none⟩) n c/\U.f a=some (.cells z 193 (0,0)))->(∀J:Hp,J.f a=some o->gN J (ms++[m]) rv)->(∃z,o=.cells z 193 (0,0))->nx (aB I dst rv) ds (U.set a o)):
 aU E ⟨dst,.call ⟨.builtin .append,#[x,y],#[78,78]⟩,ty,pos,af,g⟩ I ds U nx pn:=by
 have hn:tH (ak I y)=some 1:=by rw[hy];rfl
 have iX:jc U iU.z 1 (ak I y)=some #[iV m.seq,sV m.key,sV m.body,.bool m.again]:=by rw[hy];show jc U 4 1 _=_;simp[jc,cellsOf,cE]
 have ig:∀n,n<=1000000->(2*(n+1)+192)*iU.bytes<=2^48:=by intro n hn;show(2*(n+1)+192)*48<=2^48;omega
 cases hv with
 |none h0=>
  subst h0;refine sU iU (base:=none) (l:=0) (c:=0) (n:=1) (old:=#[]) (new:=_) ah hx hn rfl iX (ig 0 aa) aa (λhc=>aa) ?_;intro hc b cap eQ j0;refine h _ b _ (.inl eQ) (λJ ht=>?_) ⟨_,rfl⟩;refine .at b [] (Builtin.zeroCells iU.zero (cap-1)).toList cap (aW j0) ?_ ?_
  ·rw[FA];simp;omega
  ·rw[ht];simp[bd,aM.vals,iU]
 |«at»a pre pad c h1 h2 h3=>
  have hold:jc U iU.z ms.length (.slice (some ⟨a,pre.length,none⟩) ms.length c)=some (bd ms).toArray:=by
   show(cellsOf U ⟨a,pre.length,none⟩ (ms.length*4))=_;have e:pre.length+ms.length*4<=pre.length+(bd ms).length+pad.length:=by rw[pC];omega
   have e2:ms.length*4=(bd ms).length:=by rw[pC];omega
   simp only[cellsOf,h3,List.size_toArray,List.length_append,true_and,if_pos e];congr 1;apply Array.ext';simp[e2]
  refine sU iU (base:=some ⟨a,pre.length,none⟩) (l:=ms.length) (c:=c) (n:=1) (old:=(bd ms).toArray) (new:=_) ah hx hn hold iX (ig _ fZ) aa ?_ ?_
  ·intro hc;have hp4:4<=pad.length:=aa;have e2:ms.length*4=(bd ms).length:=by rw[pC];omega
   have e3:((pre++bd ms++pad).toArray.extract 0 (pre.length+ms.length*4)++ #[iV m.seq,sV m.key,sV m.body,.bool m.again]++(pre++bd ms++pad).toArray.extract (pre.length+ms.length*4+4) (pre++bd ms++pad).toArray.size)=(pre++bd (ms++[m])++pad.drop 4).toArray:=by
    apply Array.ext';rw[T0,e2];simp[aM.vals,List.drop_append]
    have d1:(pre++(bd ms++pad)).take (pre.length+(bd ms).length)=pre++bd ms:=by rw[<-List.append_assoc,List.take_left' al]
    have k1:pre.length+(bd ms).length+4-pre.length-(bd ms).length=4:=aa;rw[List.drop_eq_nil_of_le (by omega:pre.length<=_),List.drop_eq_nil_of_le (by omega:(bd ms).length<=_),d1,k1,List.nil_append,List.nil_append,List.take_of_length_le (by simp;omega)];simp
   refine⟨_,⟨_,_,h3,rfl,?_,by simp[dp],rfl⟩,?_⟩
   ·show pre.length+ms.length*4+4<=_;simp[pC];omega
   ·show nx _ _ (U.set a (.cells ((pre++bd ms++pad).toArray.extract 0 (pre.length+ms.length*4)++ #[iV m.seq,sV m.key,sV m.body,.bool m.again]++(pre++bd ms++pad).toArray.extract (pre.length+ms.length*4+4) (pre++bd ms++pad).toArray.size) 193 (0,0)));rw[e3];have:=h (.slice (some ⟨a,pre.length,none⟩) (ms++[m]).length c) a _ (.inr ⟨_,_,_,_,rfl,h3⟩) (λJ ht=>.at a pre (pad.drop 4) c (by simp;omega) (by simp;omega) ht) ⟨_,rfl⟩;simp only[List.length_append,List.length_singleton]at this;exact this
  ·intro hc b cap eQ j0;have e2:ms.length*4=(bd ms).length:=by rw[pC];omega
   have:=h (.slice (some ⟨b,([]:List Value).length,none⟩) (ms++[m]).length cap) b (.cells ((bd ms).toArray++ #[iV m.seq,sV m.key,sV m.body,.bool m.again]++Builtin.zeroCells iU.zero (cap-(ms.length+1))) 193) (.inl eQ) (λJ ht=>.at b [] (Builtin.zeroCells iU.zero (cap-(ms.length+1))).toList cap (aW j0) (by rw[FA];simp;omega) (by rw[ht,T0];simp[aM.vals])) ⟨_,rfl⟩;simp only[List.length_append,List.length_singleton,List.length_nil]at this;exact this
variable {bb st:Nat}{cZ messages bh:Int}{l:List (List UInt8×Value×Nat)}{key:List UInt8}
def anp{mq:Nat}{body:List UInt8}{cons:Value}(hb:U.f bb=some (iw mq cZ messages bh))(hm:U.f mq=some (aV bU l k))(hl:dq l key=some (key,pV q,st))(hq:U.f q=some (fM name rv held last cons))(hr:gN U ms rv)(hn:ms.length<=1000)(hh:0<=held/\held<=1000000)(agQ:(ms.length:Int)+held<cZ)(rZ:0<=messages/\messages<=1000000000000):
 ay E 285 #[pV bb,sV key,sV body] U λe J=>e=.returned .nilIface/\∃jj a o,(U.f a=none\/∃off n c z,rv=.slice (some ⟨a,off,none⟩) n c/\U.f a=some (.cells z 193 (0,0)))/\(∃z,o=.cells z 193 (0,0))/\(∀cf:Hp,cf.f a=some o->gN cf (ms++[⟨messages+1,key,body,false⟩]) jj)/\
  (((U.set bb (iw mq cZ (messages+1) bh)).set a o).set q (fM name jj held last cons)).le J:=by
 refine aX func285 ntmps285 results285 λQ aD an aA=>?_;obtain⟨b0,c0,ik⟩:=hr.shape;have dJ:=hb;have bz:=hq;rw[ik]at bz;simp only[iw]at dJ;simp only[fM]at bz;have Mv:¬q=bb:=bj hb hq (by simp[fM,iw]);refine aJ dJ ?_;refine jy (b:=mq) (k:=key) (l:=l) (c:=k) wQ (z:=.pointer none) ah ?_ hm ?_ ?_
 ·exact au
 ·exact au
 have de:((dq l key).map (·.2.1)).getD (.pointer none)=pV q:=by rw[hl];rfl
 simp only[go_sem,seval,de,Bool.false_eq_true];refine bG 15 ?_;have wl:IntKind.i64.wrap ((ms.length:Int)+held)=(ms.length:Int)+held:=wrap64 aa aa;have wm:IntKind.i64.wrap (messages+1)=messages+1:=wrap64 aa aa;have c1:¬(ms.length:Int)+held>=cZ:=aa;have sf:∀o,(U.set bb o).f q=some (.cells [sV name,.slice b0 ms.length c0,iV held,iV last,cons].toArray 81 (0,0)):=λo=>(Hp.az Mv).trans bz;refine lI bz dJ wl c1 wm ?_;refine bG 17 ?_;refine aJ sf ?_;refine⟨dL sf,?_⟩;refine ag ?_;have eb:(Obj.cells (([.map (some mq),iV cZ,iV messages,iV bh]:List Value).set 2 (.int .i64 (messages+1))).toArray 116)=iw mq cZ (messages+1) bh:=rfl;rw[eb];obtain⟨cX,so⟩:∃cX,cX=U.set bb (iw mq cZ (messages+1) bh):=⟨_,rfl⟩;have jv:cX.f q=some (.cells [sV name,.slice b0 ms.length c0,iV held,iV last,cons].toArray 81 (0,0)):=by rw[so];exact sf _
 have fz:gN cX ms rv:=by rw[so];exact hr.set (by rw[hb];intro z h;simp[iw]at h)
 rw[<-so];refineλbn cE=>?_;have ML:¬q=bn:=bj cE jv;have Eb:∀x,(cX.set bn x).f q=some (.cells [sV name,.slice b0 ms.length c0,iV held,iV last,cons].toArray 81 (0,0)):=λx=>(Hp.az ML).trans jv;have kC:∀x,cX.le (cX.set bn x):=λx y p h=>by rw[Hp.az (bj cE h)];exact h
 refine⟨dL Eb,?_⟩;refine ag ?_;refine OX (ms:=ms) (m:=⟨messages+1,key,body,false⟩) (v0:=rv) (bn:=bn) (fz.le (kC _)) ?_ ?_ aZ aa ?_
 ·simp only[go_sem,seval];exact ik.symm
 ·exact au
 intro jj a o ha rX ho
 have dn:¬a=bn/\(cX.f a=none\/∃off n c z,rv=.slice (some ⟨a,off,none⟩) n c/\cX.f a=some (.cells z 193 (0,0))):=by
  rcases ha with ha|⟨off,n,c,z,e1,e2⟩
  ·have n1:¬a=bn:=bj ha aZ;exact⟨n1,.inl ((Hp.az n1).symm.trans ha)⟩
  ·have h1:∃z,cX.f a=some (.cells z 193 (0,0)):=by
    rw[e1]at fz
    cases fz with
    |«at»_ pre pad _ _ _ h3=>exact⟨_,h3⟩
   obtain⟨z',Ht⟩:=h1;exact⟨(bj cE Ht),.inr ⟨off,n,c,z',e1,Ht⟩⟩
 have MI:¬q=a:=λe=>by
  subst e;rcases dn.2 with h|⟨_,_,_,_,_,h⟩
  ·rw[jv]at h;cases h
  ·rw[jv]at h;simp at h
 have D9:∀x y,((cX.set bn x).set a y).f q=some (.cells [sV name,.slice b0 ms.length c0,iV held,iV last,cons].toArray 81 (0,0)):=λx y=>(Hp.az MI).trans (Eb x);refine⟨dL D9,?_⟩;obtain⟨b1,vN,ahk⟩:=(rX _ (Hp.bD (U:=U) a o)).shape;subst ahk;refine aJ D9 ?_;refine⟨dL D9,?_⟩
 have dr:¬a=bb/\(U.f a=none\/∃off n c z,rv=.slice (some ⟨a,off,none⟩) n c/\U.f a=some (.cells z 193 (0,0))):=by
  have n1:¬a=bb:=λe=>by subst e;rcases dn.2 with h|⟨_,_,_,_,_,h⟩<;>(rw[so,Hp.bD]at h;simp[iw]at h)
  refine⟨n1,?_⟩;rcases dn.2 with h|⟨off,n,c,z,e1,h⟩
  ·left;rw[so,Hp.az n1]at h;exact h
  ·right;rw[so,Hp.az n1]at h;exact⟨off,n,c,z,e1,h⟩
 refine an aI ao ⟨by simp[up],_,a,o,dr.2,ho,rX,?_⟩;rw[<-so];exact ir (ir (kC _) _ _) _ _
def uB(q:Nat)(m:aM):Value:=.agg #[pV q,iV m.seq,sV m.key,sV m.body,.bool m.again]
def adi{mq:Nat}(hb:U.f bb=some (iw mq cZ messages bh))(hm:U.f mq=some (aV bU l k))(hl:dq l key=some (key,pV q,st)):
 ay E 287 #[pV bb,sV key] U λe J=>e=.returned (.tuple #[pV q,.nilIface])/\J=U:=by
 refine fR func287 ntmps287 results287 rfl al λQ aD an aA=>?_;simp only[iw]at hb;refine aJ hb ?_;refine jy (b:=mq) (k:=key) (l:=l) (c:=k) wQ (z:=.pointer none) ah ?_ hm ?_ ?_
 ·exact au
 ·exact au
 have de:((dq l key).map (·.2.1)).getD (.pointer none)=pV q:=by rw[hl];rfl
 simp only[go_sem,seval,de,Bool.false_eq_true];exact an iO ao ⟨by simp[up],rfl⟩
@[go_sem] def ati{p q:Prop}{b:Bool}:my p q b none=q:=by simp[my]
@[go_sem] def asz:CJ undef=none:=bp
def ln(h:Nat)(no:Int)(tag:List UInt8)(q:Nat)(fG:Bool):Obj:=.cells [.iface 185 (pV h),iV no,sV tag,pV q,.bool fG].toArray 191 (0,0)
def Qq:oN prog 79 where
 e:=186
 z:=1
 zero:=#[.pointer none]
 bytes:=8
 hu:=ah
 hi:=⟨t186,.pointer none,ah,ah,ah,rfl,ah⟩
def abK{mq cb:Nat}{Us:Int}{tag:List UInt8}{fG:Bool}{cv:Value}{cs:List Nat}(hb:U.f bb=some (iw mq cZ messages bh))(hc:U.f cb=some (ln h Us tag q fG))(hq:U.f q=some (fM name rv held last cv))(hv:Sl 186 U (cs.map pV) cv)(hn:cs.length<=1000)(b1:0<=bh/\bh<=1000000000000):
 ay E 290 #[pV bb,pV cb] U λe J=>e=.returned (.tuple #[])/\∃a pad,(U.f a=none\/∃c,cv=.slice (some ⟨a,0,none⟩) cs.length c)/\
  ((((U.set bb (iw mq cZ messages (bh+1))).set cb (ln h (bh+1) tag q fG)).set a (.cells (cs.map pV++[pV cb]++pad).toArray 186 (0,0))).set q (fM name rv held last (.slice (some ⟨a,0,none⟩) (cs.length+1) (cs.length+1+pad.length)))).le J:=by
 refine aX func290 ntmps290 results290 λQ aD an aA=>?_;have EK:¬cb=bb:=bj hc hb (by simp[iw,ln]);have Mv:¬q=bb:=bj hq hb (by simp[iw,fM]);have EM:¬q=cb:=bj hq hc (by simp[ln,fM]);have dJ:=hb;have cF:=hc;have bz:=hq;simp only[iw]at dJ;simp only[ln]at cF;simp only[fM]at bz;have w1:IntKind.i64.wrap (bh+1)=bh+1:=wrap64 aa aa;have bc:∀o,(U.set bb o).f cb=_:=λo=>(Hp.az EK).trans cF;have PO:∀o p,((U.set bb o).set cb p).f q=_:=λo p=>(Hp.az EM).trans ((Hp.az Mv).trans bz);refine bR dJ w1 bc ?_;refine bG 17 ?_;refine aJ PO ?_;have eb:(Obj.cells (([.map (some mq),iV cZ,iV messages,iV bh]:List Value).set 3 (.int .i64 (bh+1))).toArray 116)=iw mq cZ messages (bh+1):=rfl;have ec:(Obj.cells (([.iface 185 (pV h),iV Us,sV tag,pV q,.bool fG]:List Value).set 1 (.int .i64 (bh+1))).toArray 191)=ln h (bh+1) tag q fG:=rfl;rw[eb,ec];obtain⟨jm,tC⟩:∃jm,jm=(U.set bb (iw mq cZ messages (bh+1))).set cb (ln h (bh+1) tag q fG):=⟨_,rfl⟩;have gP:jm.f q=some (.cells [sV name,rv,iV held,iV last,cv].toArray 81 (0,0)):=by rw[tC];exact PO _ _
 have dX:jm.f cb=some (.cells [.iface 185 (pV h),iV (bh+1),sV tag,pV q,.bool fG].toArray 191 (0,0)):=by rw[tC];exact Hp.bD _ _
 have l8:Sl 186 jm (cs.map pV) cv:=by
  cases hv with
  |nil h=>exact .nil h
  |«at»a pad ha=>
   refine .at a pad ?_;have n1:¬a=bb:=bj ha hb (by simp[iw]);have n2:¬a=cb:=bj ha hc (by simp[ln]);rw[tC,Hp.az n2,Hp.az n1];exact ha
 rw[<-tC];refineλbn cE=>?_;have ML:¬q=bn:=bj cE gP;have Eb:∀x,(jm.set bn x).f q=some (.cells [sV name,rv,iV held,iV last,cv].toArray 81 (0,0)):=λx=>(Hp.az ML).trans gP;have kC:∀x,jm.le (jm.set bn x):=λx y p h=>by rw[Hp.az (bj cE h)];exact h
 have mF:=λx=>kC x _ _ dX;refine⟨jg Eb mF,?_⟩;refine ag ?_
 have hvn:∀x,Sl 186 (jm.set bn x) (cs.map pV) cv:=λx=>by
  cases l8 with
  |nil h=>exact .nil h
  |«at»a pad ha=>exact .at a pad (kC x _ _ ha)
 refine app1 Qq rfl ai (z0:=.pointer none) rfl ah (xs:=cs.map pV) (v0:=cv) (w:=pV cb) (bn:=bn) (hvn _) ?_ ?_ aZ rfl (by simpa using(by omega:cs.length<=1000000)) ?_
 ·exact au
 ·exact au
 intro a pad ha
 have gH:¬a=bn/\(jm.f a=none\/∃c,cv=.slice (some ⟨a,0,none⟩) cs.length c/\∃z,jm.f a=some (.cells z 186 (0,0))):=by
  rcases ha with ha|⟨c,e1⟩
  ·have n1:¬a=bn:=bj ha aZ;exact⟨n1,.inl ((Hp.az n1).symm.trans ha)⟩
  ·have h1:∃z,jm.f a=some (.cells z 186 (0,0)):=by
    rw[e1]at l8
    cases l8 with
    |«at»_ pad h3=>exact⟨_,h3⟩
   obtain⟨z,hz⟩:=h1;exact⟨(bj cE hz),.inr ⟨c,by simpa using e1,z,hz⟩⟩
 have MI:¬q=a:=λe=>by
  subst e;rcases gH.2 with h|⟨_,_,_,h⟩
  ·rw[gP]at h;cases h
  ·rw[gP]at h;simp at h
 have D9:∀x y,((jm.set bn x).set a y).f q=some (.cells [sV name,rv,iV held,iV last,cv].toArray 81 (0,0)):=λx y=>(Hp.az MI).trans (Eb x)
 have HJ:¬cb=a:=λe=>by
  subst e;rcases gH.2 with h|⟨_,_,_,h⟩
  ·rw[dX]at h;cases h
  ·rw[dX]at h;simp at h
 have R0:∀x y,((jm.set bn x).set a y).f cb=some (.cells [.iface 185 (pV h),iV (bh+1),sV tag,pV q,.bool fG].toArray 191 (0,0)):=λx y=>(Hp.az HJ).trans (mF x);refine⟨dL R0,?_⟩;refine aJ D9 ?_;have hcq:∀x y z,(((jm.set bn x).set a y).set q z).f cb=some (.cells [.iface 185 (pV h),iV (bh+1),sV tag,pV q,.bool fG].toArray 191 (0,0)):=λx y z=>(Hp.az (λe=>EM e.symm)).trans (R0 x y);refine⟨dL hcq,?_⟩
 have fC:U.f a=none\/∃c,cv=.slice (some ⟨a,0,none⟩) cs.length c:=by
  rcases gH.2 with h|⟨c,e1,_⟩
  ·left;have n1:¬a=cb:=λe=>HJ e.symm;have n2:¬a=bb:=λe=>by subst e;rw[tC,Hp.az n1,Hp.bD]at h;cases h
   rw[tC,Hp.az n1,Hp.az n2]at h;exact h
  ·exact .inr ⟨c,e1⟩
 refine aD dA ao ⟨rfl,a,pad,fC,?_⟩;rw[List.length_map,<-tC];exact ir (ir (kC _) _ _) _ _
def Sl.block{ety:TypeId}{xs:List Value}{a:Nat}(h:Sl ety U xs (.slice (some ⟨a,0,none⟩) n c)):∃z,U.f a=some (.cells z ety (0,0)):=by
 generalize hv:Value.slice (some ⟨a,0,none⟩) n c=v at h
 cases h with
 |nil h=>cases hv
 |«at»b pad hb=>
  simp only[Value.slice.injEq,Option.some.injEq,Addr.mk.injEq]at hv;obtain⟨⟨rfl,_,_⟩,_,_⟩:=hv;exact⟨_,hb⟩
def HR.free(hr:HR)(n:Nat):Bool:=decide (hr.mj=0)||decide ((n:Int)<hr.mj)
structure gY where
 cb:Nat
 h:Nat
 no:Int
 tag:List UInt8
 fG:Bool
 free:Bool
def WT(U:Hp)(q:Nat)(x:gY):Prop:=U.f x.cb=some (ln x.h x.no x.tag q x.fG)/\∃c un co k no hr l,U.f x.h=some (iF c no un co hr)/\U.f un=some (aV aY l k)/\x.free=hr.free l.length
def gY.may(x:gY):Bool:=x.fG||x.free
def Ch(xs:List gY)(last:Int):Option gY:=((xs.filter gY.may).find? λx=>decide (x.no>last)).or (xs.filter gY.may).head?
def rm:Option gY->Value
 |some x=>pV x.cb
 |none=>.pointer none
def aka{p:Prop}{k:Value->Prop}{m:Option Nat}:oE P p k t (.map m)=p:=by
 unfold oE
 cases yh P t (.map m)<;>rfl
def adA{un co:Nat}{no:Int}{hr:HR}{l:List (Int×Value×Nat)}(hh:U.f h=some (iF c no un co hr))(hu:U.f un=some (aV aY l k)):
 ay E 327 #[pV h] U λe J=>e=.returned (.bool (hr.free l.length))/\J=U:=by
 refine fR func327 ntmps327 results327 rfl al λQ aD an aA=>?_;simp only[iF,HR.vals]at hh;refine ag ?_;refine AW [0,1,2,3,4,5,6,7,8,9,11,12,13,14,10,15,16,17] ?_;by_cases h0:hr.mj=0
 ·refine bu hh h0 ?_;exact an aI ao ⟨by simp[up,HR.free,h0],rfl⟩
 ·refine bu hh h0 ?_;rw[aka];refine HF BK ?_ hu ?_
  ·exact au
  refine⟨dL hh,?_⟩;refine ag ?_;refine an aI ao ⟨?_,rfl⟩;simp[up,HR.free,h0]
def akC{Q:FuncId×Value->Hp->Prop}{H:Halt->Hp->Prop}:wpS prog (method (prog.types.size+Made.depth) 185 (pV h) "Free") Q H U=Q (327,pV h) U:=ah
def V4{ys:List gY}(h:∀x∈ys,x.may=true->¬x.no>last){zs:List gY}:Ch (ys++zs) last=((zs.filter gY.may).find? λx=>decide (x.no>last)).or ((ys++zs).filter gY.may).head?:=by
 unfold Ch;rw[List.filter_append,List.find?_append]
 have:(ys.filter gY.may).find? (λx=>decide (x.no>last))=none:=by rw[List.find?_eq_none];intro x hx;obtain⟨h1,h2⟩:=List.mem_filter.1 hx;simpa using h x h1 h2
 rw[this,Option.none_or]
def aq6{xs:List gY}{cv:Value}(hq:U.f q=some (fM name rv held last cv))(hv:Sl 186 U (xs.map λx=>pV x.cb) cv)(hx:∀x∈xs,WT U q x)(hn:xs.length<=1000):
 ay E 89 #[pV q] U λe J=>e=.returned (rm (Ch xs last))/\J=U:=by
 refine fR func89 ntmps89 results89 rfl al λQ aD an aA=>?_;obtain⟨base,cap,rfl,agc⟩:=hv.read;have bz:=hq;simp only[fM]at bz;refine aJ bz ?_
 refine di (λmm I ds ae=>ds=[]/\ae=U/\I 0=pV q/\I 9=.slice base xs.length cap/\I 10=iV xs.length/\
  ∃i:Nat,i+mm=xs.length/\I 11=iV i/\I 3=rm ((xs.take i).filter gY.may).head?/\∀x∈xs.take i,x.may=true->¬x.no>last) xs.length ?_ ?_
 ·refine⟨rfl,rfl,?_,?_,?_,0,aa,?_,?_,al⟩<;>exact au
  all_goals rfl
 ·rintro mm I ds ae X ⟨rfl,rfl,r0,r9,Ae,i,xQ,Af,r3,eH⟩ hX
  cases mm with
  |zero=>
   have c0:¬(i:Int)<xs.length:=aa;refine fV Ae Af c0 r3 ?_;have ht:xs.take i=xs:=List.take_of_length_le aa;rw[ht]at eH;have e:=V4 eH (zs:=[]);simp only[List.append_nil,List.filter_nil,List.find?_nil,Option.none_or]at e;refine an aI ao ⟨?_,rfl⟩;rw[e,ht];simp[up]
  |succ mm=>
   have c0:(i:Int)<xs.length:=aa;have hi:i<xs.length:=aa;obtain⟨a,L,Du,ha,hL⟩:=agc i hi;subst Du;obtain⟨R8,c,un,co,k,no,hr,l,Sk,wJ,KZ⟩:=hx xs[i] (List.getElem_mem hi);obtain⟨x,yd⟩:∃x,x=xs[i]:=⟨_,rfl⟩;rw[<-yd]at R8 Sk KZ;have wx:=R8;simp only[ln]at wx;have Gx:L[i]? =some (pV x.cb):=by rw[yd];simpa using hL
   have wi:=fQ i;have wH:xs.take (i+1)=xs.take i++[x]:=by rw[List.take_succ_eq_append_getElem hi,yd]
   refine fV Ae Af c0 r9 ?_;refine⟨aa,?_⟩
   have Qz:x.may=true->x.no>last->Ch xs last=some x:=λh1 h2=>by
    have e1:xs=xs.take i++(x::xs.drop (i+1)):=by rw[yd,<-List.drop_eq_getElem_cons hi,List.take_append_drop]
    have e2:=V4 eH (zs:=x::xs.drop (i+1));rw[<-e1]at e2;rw[e2,List.filter_cons_of_pos h1,List.find?_cons_of_pos (aW h2),Option.some_or]
   cases zF:x.fG with
   |true=>
    have xU:x.may=true:=by simp[gY.may,zF]
    simp only[go_sem,seval,ha,Gx,Nat.mul_one,Nat.zero_add,Int.toNat_natCast,wx,zF,Bool.not_true];refine bG 9 ?_;by_cases mI:x.no>last
    ·simp only[go_sem,seval,r0,bz,wx,mI];refine an aI ao ⟨?_,rfl⟩;rw[Qz xU mI];simp[up,rm]
    ·have zH:∀z∈xs.take (i+1),z.may=true->¬z.no>last:=λz hz hm=>by
      rw[wH,List.mem_append,List.mem_singleton]at hz;rcases hz with hz|rfl
      ·exact eH z hz hm
      ·exact mI
     have lC:((xs.take (i+1)).filter gY.may).head?=((xs.take i).filter gY.may).head?.or (some x):=by rw[wH,List.filter_append,List.head?_append];simp[xU]
     cases DM:((xs.take i).filter gY.may).head? with
     |none=>
      rw[DM]at r3 lC;simp only[rm]at r3;simp only[go_sem,seval,r0,bz,wx,mI,r3,Af,wi];refine hX mm _ _ _ _ aa ⟨rfl,rfl,?_,?_,?_,i+1,aa,?_,?_,zH⟩ ao
      all_goals simp only[go_sem,seval,r0,r9,Ae,lC,rm,Option.none_or]
     |some y=>
      rw[DM]at r3 lC;simp only[rm]at r3;simp only[go_sem,seval,r0,bz,wx,mI,r3,Af,wi];refine hX mm _ _ _ _ aa ⟨rfl,rfl,?_,?_,?_,i+1,aa,?_,?_,zH⟩ ao
      all_goals simp only[go_sem,seval,r0,r9,Ae,r3,lC,rm,Option.some_or]
   |false=>
    simp only[go_sem,seval,ha,Gx,Nat.mul_one,Nat.zero_add,Int.toNat_natCast,wx,zF,Bool.not_false];refine ma (t:=185) (v:=pV x.h) (recv:=pV x.h) (f:=327) (name:= "Free") ?_ (λQ H h=>by rw[akC];exact h) ?_
    ·exact au
    refine ag ?_;refine aT (adA Sk wJ) ?_
    cases gJ:x.free with
    |false=>
     have Bp:hr.free l.length=false:=by rw[<-KZ,gJ]
     have xU:x.may=false:=by simp[gY.may,zF,gJ]
     simp only[go_sem,seval,Bp,Bool.not_false,Af,wi]
     have zH:∀z∈xs.take (i+1),z.may=true->¬z.no>last:=λz hz hm=>by
      rw[wH,List.mem_append,List.mem_singleton]at hz;rcases hz with hz|rfl
      ·exact eH z hz hm
      ·rw[xU]at hm;cases hm
     have lC:((xs.take (i+1)).filter gY.may).head?=((xs.take i).filter gY.may).head?:=by rw[wH,List.filter_append];simp[xU]
     refine hX mm _ _ _ _ aa ⟨rfl,rfl,?_,?_,?_,i+1,aa,?_,?_,zH⟩ ao
     all_goals simp only[go_sem,seval,r0,r9,Ae,r3,lC]
    |true=>
     have Bp:hr.free l.length=true:=by rw[<-KZ,gJ]
     have xU:x.may=true:=by simp[gY.may,zF,gJ]
     simp only[go_sem,seval,Bp,Bool.not_true];refine bG 9 ?_;by_cases mI:x.no>last
     ·simp only[go_sem,seval,r0,bz,wx,mI];refine an aI ao ⟨?_,rfl⟩;rw[Qz xU mI];simp[up,rm]
     ·have zH:∀z∈xs.take (i+1),z.may=true->¬z.no>last:=λz hz hm=>by
       rw[wH,List.mem_append,List.mem_singleton]at hz;rcases hz with hz|rfl
       ·exact eH z hz hm
       ·exact mI
      have lC:((xs.take (i+1)).filter gY.may).head?=((xs.take i).filter gY.may).head?.or (some x):=by rw[wH,List.filter_append,List.head?_append];simp[xU]
      cases DM:((xs.take i).filter gY.may).head? with
      |none=>
       rw[DM]at r3 lC;simp only[rm]at r3;simp only[go_sem,seval,r0,bz,wx,mI,r3,Af,wi];refine hX mm _ _ _ _ aa ⟨rfl,rfl,?_,?_,?_,i+1,aa,?_,?_,zH⟩ ao
       all_goals simp only[go_sem,seval,r0,r9,Ae,lC,rm,Option.none_or]
      |some y=>
       rw[DM]at r3 lC;simp only[rm]at r3;simp only[go_sem,seval,r0,bz,wx,mI,r3,Af,wi];refine hX mm _ _ _ _ aa ⟨rfl,rfl,?_,?_,?_,i+1,aa,?_,?_,zH⟩ ao
       all_goals simp only[go_sem,seval,r0,r9,Ae,r3,lC,rm,Option.some_or]
section
variable {β:Type}
variable {α:Type}[DecidableEq α]
def bq (l:List (α×β))(k:α):Option β:=(l.find? λe=>decide (e.1=k)).map (·.2)
def dE (l:List (α×β))(k:α)(f:β->β):List (α×β):=l.map λe=>if e.1=k then(e.1,f e.2)else e
def cC (l:List (α×β))(k:α):List (α×β):=l.filter λe=>decide (e.1≠k)
def da (lt:α->α->Bool):List (α×β)->α->β->List (α×β)
 |[],k,v=>[(k,v)]
 |e::l,k,v=>if lt k e.1 then(k,v)::e::l else e::da lt l k v
end
structure QN where
 ready:List aM
 held:Int
 last:Int
 cons:List Int
structure HN where
 r:HR
 un:List (Nat×(List UInt8×aM))
 co:List (List UInt8×Int)
structure CN where
 r:CR
 ch:List (Nat×HN)
structure XN where
 id:Int
 no:Nat
 tag:List UInt8
 q:List UInt8
 fG:Bool
structure N where
 cfg:kt
 clock:Int
 last:Int
 messages:Int
 bh:Int
 aF:List (Int×CN)
 aN:List (List UInt8×QN)
 xs:List (Int×XN)
def N.ar(n:N)(id:Int):Option CN:=bq n.aF id
def N.h?(n:N)(id:Int)(no:Nat):Option HN:=(n.ar id).bind λc=>bq c.ch no
def N.q?(n:N)(nm:List UInt8):Option QN:=bq n.aN nm
def N.x?(n:N)(k:Int):Option XN:=bq n.xs k
def N.dN(n:N)(id:Int)(f:CN->CN):N:={n with aF:=dE n.aF id f}
def N.bA(n:N)(id:Int)(f:CR->CR):N:=n.dN id λc=>{c with r:=f c.r}
def N.bB(n:N)(id:Int)(no:Nat)(f:HN->HN):N:=n.dN id λc=>{c with ch:=dE c.ch no f}
def N.cN(n:N)(id:Int)(no:Nat)(f:HR->HR):N:=n.bB id no λh=>{h with r:=f h.r}
def N.bH(n:N)(nm:List UInt8)(f:QN->QN):N:={n with aN:=dE n.aN nm f}
def N.ph (n:N)(id:Int):Int:=((n.ar id).map (·.r.ph)).getD 5
def N.send(n:N)(id:Int)(s:List UInt8):N:=n.bA id λr=>{r with out:=r.out++s,iq:=n.clock}
def N.may(n:N)(k:Int):Bool:=match n.x? k with
 |some x=>x.fG||(match n.h? x.id x.no with|some h=>h.r.free h.un.length|none=>false)
 |none=>false
def N.vA(n:N)(q:QN):Option Int:=((q.cons.filter n.may).find? λk=>decide (k>q.last)).or (q.cons.filter n.may).head?
def N.hand(n:N)(id:Int)(no:Nat)(nm:List UInt8)(m:aM)(fG:Bool):N:=
 if fG then n.cN id no λr=>{r with tag:=r.tag+1}
 else(n.bB id no λh=>{h with r:={h.r with tag:=h.r.tag+1},un:=h.un++[((h.r.tag+1).toNat,(nm,m))]}).bH nm λq=>{q with held:=q.held+1}
def N.tag (n:N)(id:Int)(no:Nat):Nat:=(((n.h? id no).map λ(h:HN)=>h.r.tag).getD 0).toNat
def N.frame (n:N)(id:Int):Nat:=(((n.ar id).map λ(c:CN)=>c.r.frame).getD 0).toNat
def N.give(n:N)(id:Int)(no:Nat)(m:aM)(s:List UInt8):N:=(n.send id s).send id (mv no m.body (n.frame id))
def N.take(n:N)(k:Int)(m:aM):N:=match n.x? k with
 |none=>n
 |some x=>(n.hand x.id x.no x.q m x.fG).give x.id x.no m (bK x.no 60 60 [.text x.tag,.mM (n.tag x.id x.no+1),.flag m.again,.text m.key])
def N.iY(n:N)(nm:List UInt8):Option N:=match n.q? nm with
 |none=>none
 |some q=>match q.ready with
  |[]=>none
  |m::_=>match n.vA q with
   |none=>none
   |some k=>some ((n.bH nm λq=>{q with ready:=q.ready.tail,last:=k}).take k m)
def N.kI:Nat->N->List UInt8->N
 |0,n,_=>n
 |f+1,n,nm=>match n.iY nm with
  |none=>n
  |some n'=>kI f n' nm
def N.ready (n:N)(nm:List UInt8):Nat:=((n.q? nm).map (·.ready.length)).getD 0
def N.serve(n:N):N:=(n.aN.map (·.1)).foldl (λn nm=>n.kI (n.ready nm) nm) n
def im(ms:List aM)(m:aM):List aM:=ms.takeWhile (λx=>decide (x.seq<m.seq))++{m with again:=true}::ms.dropWhile (λx=>decide (x.seq<m.seq))
def N.settle(n:N)(id:Int)(no:Nat)(tag:Nat)(back:Bool):N:=match(n.h? id no).bind λh=>bq h.un tag with
 |none=>n
 |some (nm,m)=>(n.bB id no λh=>{h with un:=cC h.un tag}).bH nm λq=>{q with held:=q.held-1,ready:=if back then im q.ready m else q.ready}
def N.cancel(n:N)(k:Int):N:=match n.x? k with
 |none=>n
 |some x=>{n.bH x.q λq=>{q with cons:=q.cons.filter λj=>decide (j≠k)}with xs:=cC n.xs k}
def N.release(n:N)(id:Int)(no:Nat):N:=match n.h? id no with
 |none=>n
 |some h=>h.un.foldl (λn e=>n.settle id no e.1 true) ((h.co.foldl (λn e=>n.cancel e.2) n).bB id no λh=>{h with co:=[]})
def N.leave(n:N)(id:Int):N:=match n.ar id with
 |none=>n
 |some c=>(c.ch.foldl (λn e=>n.release id e.1) n).dN id λc=>{c with ch:=[]}
def N.oY(n:N)(id:Int)(no:Nat):N:=(n.release id no).dN id λc=>{c with ch:=cC c.ch no}
def oZ(e cl me:Nat):List Arg:=[.short e,.text [],.short cl,.short me]
def N.soft(n:N)(id:Int)(no:Nat)(e cl me:Nat):N:=((n.release id no).cN id no λr=>{r with closing:=true}).send id (bK no 20 40 (oZ e cl me))
def N.cL(n:N)(id:Int)(e cl me:Nat):N:=((n.leave id).bA id λr=>{r with ph:=4}).send id (bK 0 10 50 (oZ e cl me))
inductive Er where
 |nil
 |soft (e cl me:Nat)
 |cL (e cl me:Nat)
inductive HO where
 |ok (n:N) (er:Er)
 |bad (cl me:Nat)
def okB(b:UInt8):Bool:=let n:=b.toNat
 (decide (97<=n)&&decide (n<=122))||(decide (65<=n)&&decide (n<=90))||(decide (48<=n)&&decide (n<=57))||decide (n=46)||decide (n=95)||decide (n=45)
def named(s:List UInt8):Bool:=decide (s≠[])&&decide (s.length<=16)&&s.all okB
def N.declare(n:N)(id:Int)(no:Nat)(s:List UInt8)(cl me:Nat):HO:=match jB s with
 |some (nm,[])=>match n.q? nm with
  |some q=>.ok (n.send id (bK no 50 11 [.text nm,.long q.ready.length,.long q.cons.length])) .nil
  |none=>if named nm=false then .ok n (.cL 502 cl me)else if n.aN.length=8 then .ok n (.soft 506 cl me)
   else .ok (({n with aN:=da cP n.aN nm ⟨[],0,0,[]⟩}:N).send id (bK no 50 11 [.text nm,.long 0,.long 0])) .nil
 |_=>.bad cl me
def N.pE(n:N)(id:Int)(no:Nat)(s:List UInt8)(cl me:Nat):HO:=match jB s with
 |some (nm,[])=>match n.q? nm with
  |some q=>.ok ((n.bH nm λq=>{q with ready:=[]}).send id (bK no 50 31 [.long q.ready.length])) .nil
  |none=>.ok n (.soft 404 cl me)
 |_=>.bad cl me
def N.sF(n:N)(id:Int)(no:Nat)(s:List UInt8)(cl me:Nat):HO:=match fu 2 s with
 |some (k,[])=>.ok ((n.cN id no λr=>{r with mj:=k}).send id (bK no 60 11 [])) .nil
 |_=>.bad cl me
def N.kM(n:N)(id:Int)(no:Nat)(nm tg:List UInt8)(na:Bool):N:=
 (({n with bh:=n.bh+1,xs:=n.xs++[(n.bh+1,⟨id,no,tg,nm,na⟩)]}:N).bH nm λq=>{q with cons:=q.cons++[n.bh+1]}).bB id no λh=>{h with co:=da cP h.co tg (n.bh+1)}
def N.consume(n:N)(id:Int)(no:Nat)(h:HN)(s:List UInt8)(cl me:Nat):HO:=match jB s with
 |some (nm,s1)=>match jB s1 with
  |some (tg,s2)=>match yu s2 with
   |some (na,[])=>if tg.length<1\/tg.length>8 then .ok n (.cL 502 cl me)else match n.q? nm with
    |none=>.ok n (.soft 404 cl me)
    |some _=>if(bq h.co tg).isSome then .ok n (.cL 530 cl me)else if h.co.length=4 then .ok n (.soft 506 cl me)
     else .ok ((n.kM id no nm tg na).send id (bK no 60 21 [.text tg])) .nil
   |_=>.bad cl me
  |_=>.bad cl me
 |_=>.bad cl me
def N.rF(n:N)(id:Int)(no:Nat)(h:HN)(tg:List UInt8):N:=match bq h.co tg with
 |some k=>(n.cancel k).bB id no λh=>{h with co:=cC h.co tg}
 |none=>n
def N.qE(n:N)(id:Int)(no:Nat)(h:HN)(s:List UInt8)(cl me:Nat):HO:=match jB s with
 |some (tg,[])=>.ok ((n.rF id no h tg).send id (bK no 60 31 [.text tg])) .nil
 |_=>.bad cl me
def N.sE(n:N)(id:Int)(no:Nat)(s:List UInt8)(cl me:Nat):HO:=match jB s with
 |some (key,[])=>.ok (n.cN id no λr=>{r with key:=key,want:=2}) .nil
 |_=>.bad cl me
def N.get(n:N)(id:Int)(no:Nat)(s:List UInt8)(cl me:Nat):HO:=match jB s with
 |some (nm,s1)=>match yu s1 with
  |some (na,[])=>match n.q? nm with
   |none=>.ok n (.soft 404 cl me)
   |some q=>match q.ready with
    |[]=>.ok (n.send id (bK no 60 72 [])) .nil
    |m::ms=>.ok (((n.bH nm λq=>{q with ready:=q.ready.tail}).hand id no nm m na).give id no m (bK no 60 71 [.mM (n.tag id no+1),.flag m.again,.text m.key,.long ms.length])) .nil
  |_=>.bad cl me
 |_=>.bad cl me
def N.jP(n:N)(id:Int)(no:Nat)(p:Nat->Bool)(back:Bool)(l:List (Nat×(List UInt8×aM))):N:=l.foldl (λn e=>if p e.1 then n.settle id no e.1 back else n) n
def N.settled(n:N)(id:Int)(no:Nat)(h:HN)(s:List UInt8)(cl me:Nat):HO:=match fu 4 s with
 |some (high,s1)=>match fu 4 s1 with
  |some (tag,s2)=>match yu s2 with
   |some (flag,[])=>
    if(decide (high=0)&&(bq h.un tag).isSome)||(decide (me=80)&&flag&&decide (high=0)&&decide (tag=0))then
     .ok (n.jP id no (λt=>decide (t=tag)||(decide (me=80)&&flag&&(decide (t<tag)||decide (tag=0)))) (decide (me≠80)&&flag) h.un) .nil
    else .ok n (.soft 406 cl me)
   |_=>.bad cl me
  |_=>.bad cl me
 |_=>.bad cl me
def sD(s:List UInt8):Option (List UInt8):=match fu 2 s with
 |some (_,s1)=>match jB s1 with
  |some (_,s2)=>match fu 4 s2 with
   |some (_,s3)=>some s3
   |none=>none
  |none=>none
 |none=>none
def N.close(n:N)(id:Int)(no:Nat)(s:List UInt8)(cl me:Nat):HO:=match sD s with
 |some []=>.ok ((n.send id (bK no 20 41 [])).oY id no) .nil
 |_=>.bad cl me
def N.method(n:N)(id:Int)(no:Nat)(h:HN)(s:List UInt8)(cl me:Nat):HO:=
 if cl=20/\me=10 then .ok n (.cL 504 cl me)
 else if cl=20/\me=40 then n.close id no s cl me
 else if cl=50/\me=10 then n.declare id no s cl me
 else if cl=50/\me=30 then n.pE id no s cl me
 else if cl=60/\me=10 then n.sF id no s cl me
 else if cl=60/\me=20 then n.consume id no h s cl me
 else if cl=60/\me=30 then n.qE id no h s cl me
 else if cl=60/\me=40 then n.sE id no s cl me
 else if cl=60/\me=70 then n.get id no s cl me
 else if cl=60/\(me=80\/me=90)then n.settled id no h s cl me
 else if cl=10 then .ok n (.cL 503 cl me)
 else .ok n (.cL 540 cl me)
def N.jN(n:N)(key body:List UInt8):N×Bool:=match n.q? key with
 |none=>(n,true)
 |some q=>if(q.ready.length:Int)+q.held>=n.cfg.queue then(n,false)
  else(({n with messages:=n.messages+1}:N).bH key λq=>{q with ready:=q.ready++[⟨n.messages+1,key,body,false⟩]},true)
def N.whole(n:N)(id:Int)(no:Nat)(r:HR):HO:=
 if(r.body.length:Int)<r.size then .ok (n.cN id no λ_=>r) .nil else
  let p:=(n.cN id no λ_=>{r with want:=1}).jN r.key r.body
  .ok p.1 (if p.2 then .nil else .soft 506 60 40)
def N.header(n:N)(id:Int)(no:Nat)(r:HR)(s:List UInt8):HO:=match fu 2 s with
 |some (abo,s1)=>match fu 2 s1 with
  |some (weight,s2)=>match fu 4 s2 with
   |some (high,s3)=>match fu 4 s3 with
    |some (low,[])=>if abo≠60\/weight≠0 then .ok n (.cL 502 60 40)else if high>0\/(low:Int)>n.cfg.body then .ok n (.soft 311 60 40)
     else n.whole id no {r with want:=3,size:=low,body:=[]}
    |_=>.bad 60 40
   |_=>.bad 60 40
  |_=>.bad 60 40
 |_=>.bad 60 40
def N.part(n:N)(id:Int)(no:Nat)(r:HR)(s:List UInt8):HO:=
 if((r.body++s).length:Int)>r.size then .ok (n.cN id no λr=>{r with body:=r.body++s}) (.cL 502 60 40)
 else n.whole id no {r with body:=r.body++s}
def N.js(n:N)(id:Int)(no:Nat)(h:HN)(kind:Int)(s:List UInt8)(cl me:Nat):HO:=
 if h.r.closing then
  if kind=1/\cl=20/\me=40 then .ok ((n.send id (bK no 20 41 [])).oY id no) .nil
  else if kind=1/\cl=20/\me=41 then .ok (n.oY id no) .nil
  else .ok n .nil
 else if kind≠max h.r.want 1 then .ok n (.cL 505 cl me)
 else if kind=2 then n.header id no h.r s
 else if kind=3 then n.part id no h.r s
 else n.method id no h s cl me
def lG(a b:Nat):Bool:=decide (a<b)
def gu:HR:=⟨false,0,0,0,[],[],0⟩
def N.kW(n:N)(id:Int)(c:CN)(no:Nat)(kind:Int)(s:List UInt8)(cl me:Nat):HO:=
 if(no:Int)>c.r.cZ then .ok n (.cL 504 cl me)else match bq c.ch no with
 |some h=>n.js id no h kind s cl me
 |none=>if kind=1/\cl=20/\me=10 then(match jB s with
  |some (_,[])=>.ok ((n.dN id λc=>{c with ch:=da lG c.ch no ⟨gu,[],[]⟩}).send id (bK no 20 11 [.long 0])) .nil
  |_=>.bad cl me)
  else .ok n (.cL 504 cl me)
def N.control(n:N)(id:Int)(kind:Int)(s:List UInt8)(cl me:Nat):HO:=
 if kind=1/\cl=10/\me=50 then(match sD s with
  |some []=>.ok (((n.leave id).send id (bK 0 10 51 [])).bA id λr=>{r with ph:=5}) .nil
  |_=>.bad cl me)
 else .ok n (.cL 503 cl me)
def N.begin(n:N)(id:Int)(c:CN)(ch:Int)(kind:Int)(s:List UInt8)(cl me:Nat):HO:=
 if¬(kind=1/\cl=10/\me=(if c.r.ph=1 then 31 else 40))\/ch≠0 then .ok n (.cL 503 cl me)
 else if c.r.ph=2 then(match jB s with
  |some (_,[])=>.ok ((n.bA id λr=>{r with ph:=3}).send id (bK 0 10 41 [.text []])) .nil
  |_=>.bad cl me)
 else match fu 2 s with
  |some (cZ,s1)=>match fu 4 s1 with
   |some (size,s2)=>match fu 2 s2 with
    |some (gD,[])=>if cZ<1\/(cZ:Int)>n.cfg.jq\/size<64\/(size:Int)>n.cfg.frame\/(gD:Int)>n.cfg.gD then .ok n (.cL 530 cl me)
     else .ok (n.bA id λr=>{r with cZ:=cZ,frame:=size,gD:=gD,ph:=2}) .nil
    |_=>.bad cl me
   |_=>.bad cl me
  |_=>.bad cl me
def N.iS(n:N)(id:Int)(c:CN)(ch:Int)(kind:Int)(s:List UInt8)(cl me:Nat):HO:=
 if c.r.ph=1\/c.r.ph=2 then n.begin id c ch kind s cl me
 else if c.r.ph=3 then(if ch=0 then n.control id kind s cl me else n.kW id c ch.toNat kind s cl me)
 else if c.r.ph=4/\kind=1/\cl=10/\me=51/\ch=0 then .ok (n.bA id λr=>{r with ph:=5}) .nil
 else .ok n .nil
def N.fB(n:N)(id:Int)(c:CN)(u:Un):HO:=
 if u.kind=1 then(match fu 2 u.ji with
  |some (cl,s1)=>match fu 2 s1 with
   |some (me,s2)=>n.iS id c u.channel 1 s2 cl me
   |none=>.ok n (.cL 502 0 0)
  |none=>.ok n (.cL 502 0 0))
 else n.iS id c u.channel u.kind u.ji 0 0
def HO.get(n:N):HO->N×Er
 | .ok n' er=>(n',er)
 | .bad cl me=>(n,.cL 502 cl me)
def N.fault(n:N)(id:Int)(no:Int):Er->N
 | .nil=>n
 | .soft e cl me=>if n.ph id=4 then n else n.soft id no.toNat e cl me
 | .cL e cl me=>if n.ph id=4 then n else n.cL id e cl me
def N.kQ(n:N)(id:Int)(u:Un):N:=match n.ar id with
 |none=>n
 |some c=>let p:=(n.fB id c u).get n
  p.1.fault id u.channel p.2
def N.unit(n:N)(id:Int)(u:Un):N:=
 if u.kz then
  if u.gm then(n.send id pW).bA id λr=>{r with ph:=5}
  else(n.bA id λr=>{r with ph:=1}).send id (bK 0 10 30 [.short n.cfg.jq.toNat,.long n.cfg.frame.toNat,.short n.cfg.gD.toNat])
 else if u.gm then(if n.ph id=4 then n else n.cL id 501 0 0).bA id λr=>{r with ph:=5}
 else if u.kind=8 then n else n.kQ id u
def N.cut(n:N)(id:Int):Un×N:=match n.ar id with
 |none=>(⟨0,0,[],false,false⟩,n)
 |some c=>let v:=dz c.r.iy c.r.rest c.r.frame
  (v.1,n.bA id λr=>{r with iy:=v.2.1,rest:=v.2.2})
def N.fJ:Nat->N->Int->N
 |0,n,_=>n
 |f+1,n,id=>if n.ph id=5 then n else if(n.cut id).1.idle then(n.cut id).2 else fJ f (((n.cut id).2.unit id (n.cut id).1).serve) id
def N.rest (n:N)(id:Int):List UInt8:=((n.ar id).map (·.r.rest)).getD []
def N.s7(n:N)(id:Int)(s:List UInt8):N:=
 let n1:=n.bA id λr=>{r with recv:=n.clock,rest:=r.rest++s}
 n1.fJ ((n1.rest id).length+2) id
def N.gW(n:N):N:=((n.aF.map (·.1)).foldl (λn id=>if n.ph id=5 then n.leave id else n) n).serve
def N.outs(n:N):List (Int×List UInt8):=(n.aF.map λe=>(e.1,e.2.r.out)).filter λe=>decide (e.2≠[])
def N.clean(n:N):N:={n with aF:=(n.aF.filter λe=>decide (e.2.r.ph≠5)).map λe=>(e.1,{e.2 with r:={e.2.r with out:=[]}})}
def N.feed(n:N)(id:Int)(s:List UInt8):N:=(if s=[]then n else n.s7 id s).gW
def N.drop(n:N)(id:Int):N:=(n.bA id λr=>{r with ph:=5}).gW
inductive Ref where
 |b0|b1|gw|br|mq|mc
 |conn (id:Int)|chm (id:Int)
 |chan (id:Int) (no:Nat)|un (id:Int) (no:Nat)|co (id:Int) (no:Nat)
 |queue (nm:List UInt8)|fw (nm:List UInt8)|ix (nm:List UInt8)
 |cons (k:Int)
 |ext (i:Nat)
 deriving DecidableEq
inductive V where
 |obj (o:Obj)
 |pA (l:List (Int×Value))
 |yl (l:List (List UInt8×Value))
 |fw (v:Value) (ms:List aM)
 |ix (v:Value) (ps:List Value)
structure pN {α:Type} (l:List (α×Value×Nat)) (c:Nat):Prop where
 uniq:jW l
 old:∀e∈l,e.2.2<c
 nd:(l.map (·.2.2)).Nodup
def oM:V->Obj->Prop
 | .obj o,o'=>o'=o
 | .pA kv,o'=>∃l c,o'=aV aY l c/\pN l c/\(l.map λe=>(e.1,e.2.1)).Perm kv
 | .yl kv,o'=>∃l c,o'=aV bU l c/\pN l c/\(l.map λe=>(e.1,e.2.1)).Perm kv
 | .fw v ms,o'=>∃a pre pad c,v=.slice (some ⟨a,List.length (α:=Value) pre,none⟩) ms.length c/\ms.length<=c/\4*(c-ms.length)<=List.length (α:=Value) pad/\o'=.cells (pre++bd ms++pad).toArray 193 (0,0)
 | .ix v ps,o'=>∃a pad,v=.slice (some ⟨a,0,none⟩) ps.length (ps.length+List.length (α:=Value) pad)/\o'=.cells (ps++pad).toArray 186 (0,0)
def EY:List Value:=Go.Lib.propertiesTab.map λz=>Value.int .u8 z
structure Lay where
 gw:Nat
 br:Nat
 mq:Nat
 mc:Nat
 conn:Int->Nat
 chan:Int->Nat->Nat
 un:Int->Nat->Nat
 co:Int->Nat->Nat
 queue:List UInt8->Nat
 cons:Int->Nat
 L1:List Value
 qP:L1=EY
def Lay.tab(A:Lay):∀i<128,A.L1[i]? =some (.int .u8 (Go.Lib.propertiesTab.getD i 0)):=λi hi=>by
 have h:i<Go.Lib.propertiesTab.length:=by rw[Go.Lib.propertiesTab_length];omega
 rw[A.qP,EY,List.getElem?_map,List.getElem?_eq_getElem h,List.getD_eq_getElem?_getD,List.getElem?_eq_getElem h];rfl
structure Hid where
 chm:Int->Nat
 rv:List UInt8->Value
 cv:List UInt8->Value
def pP:Value->Nat
 | .slice (some a) _ _=>a.block
 |_=>0
def kU:Value->Bool
 | .slice none 0 0=>true
 |_=>false
abbrev Ext:=List (Nat×Obj)
def cI(A:Lay)(H:Hid)(X:Ext):Ref->Nat
 | .b0=>0| .b1=>1| .gw=>A.gw| .br=>A.br| .mq=>A.mq| .mc=>A.mc
 | .conn id=>A.conn id| .chm id=>H.chm id
 | .chan id no=>A.chan id no| .un id no=>A.un id no| .co id no=>A.co id no
 | .queue nm=>A.queue nm| .fw nm=>pP (H.rv nm)| .ix nm=>pP (H.cv nm)
 | .cons k=>A.cons k
 | .ext i=>(X[i]?.map (·.1)).getD 0
def Ag(v:Value)(ms:List aM):Option V:=if kU v=true/\ms=[]then none else some (.fw v ms)
def CQ(v:Value)(ps:List Value):Option V:=if kU v=true/\ps=[]then none else some (.ix v ps)
def view(n:N)(A:Lay)(H:Hid)(X:Ext):Ref->Option V
 | .b0=>some (.obj (.cells #[rT 45] 143 (0,0)))
 | .b1=>some (.obj (.cells A.L1.toArray 396 (0,0)))
 | .gw=>some (.obj (eP n.cfg A.br A.mc n.clock n.last))
 | .br=>some (.obj (iw A.mq n.cfg.queue n.messages n.bh))
 | .mq=>some (.yl (n.aN.map λe=>(e.1,pV (A.queue e.1))))
 | .mc=>some (.pA (n.aF.map λe=>(e.1,pV (A.conn e.1))))
 | .conn id=>(n.ar id).map λc=>.obj (fI A.gw id (H.chm id) c.r)
 | .chm id=>(n.ar id).map λc=>.pA (c.ch.map λe=>((e.1:Int),pV (A.chan id e.1)))
 | .chan id no=>(n.h? id no).map λh=>.obj (iF (A.conn id) no (A.un id no) (A.co id no) h.r)
 | .un id no=>(n.h? id no).map λh=>.pA (h.un.map λe=>((e.1:Int),uB (A.queue e.2.1) e.2.2))
 | .co id no=>(n.h? id no).map λh=>.yl (h.co.map λe=>(e.1,pV (A.cons e.2)))
 | .queue nm=>(n.q? nm).map λq=>.obj (fM nm (H.rv nm) q.held q.last (H.cv nm))
 | .fw nm=>(n.q? nm).bind λq=>Ag (H.rv nm) q.ready
 | .ix nm=>(n.q? nm).bind λq=>CQ (H.cv nm) (q.cons.map λk=>pV (A.cons k))
 | .cons k=>(n.x? k).map λx=>.obj (ln (A.chan x.id x.no) k x.tag (A.queue x.q) x.fG)
 | .ext i=>(X[i]?).map λp=>.obj p.2
structure Hl (w:Ref->Option V) (ad:Ref->Nat) (U:Hp):Prop where
 has:∀r v,w r=some v->∃o,U.f (ad r)=some o/\oM v o
 inj:∀r r',(w r).isSome->(w r').isSome->ad r=ad r'->r=r'
def upd{β:Type}(f:Ref->β)(r:Ref)(v:β):Ref->β:=λx=>if x=r then v else f x
section
variable {U:Hp}{w:Ref->Option V}{w':Ref->Option V}{ad:Ref->Nat}{ON:Ref->Nat}{J:Hp}{r:Ref}{b:Nat}{o:Obj}
variable {v:V}
def Hl.le (h:Hl w ad U)(k:U.le J):Hl w ad J:=⟨λr v hv=>by obtain⟨o,h1,h2⟩:=h.has r v hv;exact⟨o,k _ _ h1,h2⟩,h.inj⟩
def Hl.congr (h:Hl w ad U)(hw:∀r,w' r=w r)(ha:∀r,(w' r).isSome->ON r=ad r):Hl w' ON U:=by
 refine⟨λr v hv=>?_,λr r' h1 h2 e=>?_⟩
 ·rw[ha r (by rw[hv];rfl)];exact h.has r v (by rw[<-hw];exact hv)
 ·rw[ha r h1,ha r' h2]at e;exact h.inj r r' (by rw[<-hw];exact h1) (by rw[<-hw];exact h2) e
def Hl.sub (h:Hl w ad U)(hw:∀r,w' r=none\/w' r=w r):Hl w' ad U:=by have key:∀r,(w' r).isSome->w' r=w r:=λr hr=>(hw r).elim (λe=>by rw[e]at hr;cases hr) _root_.id;exact⟨λr v hv=>h.has r v (by rw[<-key r (by rw[hv];rfl)];exact hv),λr r' h1 h2 e=>h.inj r r' (by rw[<-key r h1];exact h1) (by rw[<-key r' h2];exact h2) e⟩
def Hl.put (h:Hl w ad U)(hb:∀r',r'≠r->(w r').isSome->ad r'≠b)(ho:oM v o):Hl (upd w r (some v)) (upd ad r b) (U.set b o):=by
 refine⟨λx u hu=>?_,λx y hx hy e=>?_⟩
 ·by_cases e:x=r
  ·subst e;simp only[upd,if_true]at hu|-
   cases hu
   exact⟨o,aZ,ho⟩
  ·simp only[upd,if_neg e]at hu|-;obtain⟨o',h1,h2⟩:=h.has x u hu;exact⟨o',by rw[Hp.az (hb x e (by rw[hu];rfl))];exact h1,h2⟩
 ·by_cases e1:x=r<;>by_cases e2:y=r
  ·rw[e1,e2]
  ·simp only[upd,if_pos e1,if_neg e2]at e hy;exact absurd e.symm (hb y e2 hy)
  ·simp only[upd,if_neg e1,if_pos e2]at e hx;exact absurd e (hb x e1 hx)
  ·simp only[upd,if_neg e1,if_neg e2]at e hx hy;exact h.inj x y hx hy e
def Hl.set (h:Hl w ad U)(hr:(w r).isSome)(ho:oM v o):Hl (upd w r (some v)) ad (U.set (ad r) o):=by
 have:=h.put (r:=r) (b:=ad r) (λr' aE hs e=>aE (h.inj r' r hs hr e)) ho;have e:upd ad r (ad r)=ad:=by funext x;simp only[upd];split<;>simp_all
 rwa[e]at this
def Hl.vr (h:Hl w ad U)(hr:(w r).isSome)(o:Obj):Hl (upd w r (some (.obj o))) ad (U.set (ad r) o):=h.set hr (v:=.obj o) (_root_.id rfl)
def Hl.new (h:Hl w ad U)(hb:U.f b=none)(ho:oM v o):Hl (upd w r (some v)) (upd ad r b) (U.set b o):=
 h.put (λr' _ hs e=>by
  obtain⟨u,hu⟩:=Option.isSome_iff_exists.1 hs
  obtain⟨o',h1,_⟩:=h.has r' u hu
  rw[e,hb]at h1;cases h1) ho
def Hl.obj (h:Hl w ad U)(hr:w r=some (.obj o)):U.f (ad r)=some o:=by obtain⟨o',h1,h2⟩:=h.has _ _ hr;cases h2;exact h1
end
def aq(A:Lay)(H:Hid)(n:N)(X:Ext)(U:Hp):Prop:=Hl (view n A H X) (cI A H X) U
def At(A:Lay)(n:N)(X:Ext)(U:Hp):Prop:=∃H,aq A H n X U
section
variable {β:Type}
variable {α:Type}[DecidableEq α]
def Jl (l:List (α×β))(k k':α)(f:β->β):bq (dE l k f) k'=if k'=k then(bq l k').map f else bq l k':=by
 unfold bq dE
 induction l with
 |nil=>simp
 |cons e l ih=>
  simp only[List.map_cons,List.find?_cons];by_cases h1:e.1=k
  ·by_cases h2:e.1=k'
   ·simp[h1,<-h2]
   ·have:¬k'=k:=λx=>h2 (by rw[x,h1]);simp only[h1,if_true,this,if_false]at ih|-;have h3:¬k=k':=λx=>this x.symm;simp only[h3,decide_false];exact ih
  ·by_cases h2:e.1=k'
   ·have:¬k'=k:=λx=>h1 (by rw[h2,x]);simp[h2,this]
   ·simp only[h1,if_false,h2,decide_false];exact ih
def oP {γ:Type}(l:List (α×β))(k:α)(f:β->β)(F:α->γ):((dE l k f).map λe=>F e.1)=l.map λe=>F e.1:=by unfold dE;rw[List.map_map];apply List.map_congr_left;intro e _;simp only[Function.comp];split<;>rfl
def iZ {l:List (α×β)}{k:α}{v:β}(h:bq l k=some v):(k,v)∈l:=by unfold bq at h;obtain⟨e,h1,h2⟩:=Option.map_eq_some_iff.1 h;have:=List.find?_some h1;simp only[decide_eq_true_eq]at this;subst this;subst h2;exact List.mem_of_find?_eq_some h1
def ja {l:List (α×β)}{k:α}(h:bq l k=none):∀e∈l,e.1≠k:=by unfold bq at h;simpa using h
def CE (l:List (α×β))(k k':α):bq (cC l k) k'=if k'=k then none else bq l k':=by
 unfold bq cC
 induction l with
 |nil=>simp
 |cons e l ih=>
  simp only[List.filter_cons,List.find?_cons];by_cases h1:e.1=k
  ·by_cases h2:e.1=k'
   ·have:k'=k:=by rw[<-h2,h1]
    simp only[this,if_true]at ih|-;simp only[h1,ne_eq,not_true_eq_false,decide_false,Bool.false_eq_true,if_false];exact ih
   ·simp only[h1,ne_eq,not_true_eq_false,decide_false,Bool.false_eq_true,if_false];have:¬k=k':=λx=>h2 (by rw[h1,x]);simp only[this,decide_false];exact ih
  ·simp only[h1,ne_eq,not_false_eq_true,decide_true,if_true,List.find?_cons];by_cases h2:e.1=k'
   ·have:¬k'=k:=λx=>h1 (by rw[h2,x]);simp[h2,this]
   ·simp only[h2,decide_false];exact ih
def yX {lt:α->α->Bool}(l:List (α×β))(k k':α)(v:β)(hk:bq l k=none):bq (da lt l k v) k'=if k'=k then some v else bq l k':=by
 induction l with
 |nil=>simp only[da,bq,List.find?_cons,List.find?_nil];by_cases h:k=k'<;>simp[h,eq_comm]
 |cons e l ih=>
  have GM:¬e.1=k:=ja hk e al
  have eF:bq l k=none:=by unfold bq at hk|-;simp only[List.find?_cons,GM,decide_false]at hk;exact hk
  simp only[da];split
  ·unfold bq;simp only[List.find?_cons];by_cases h:k=k'
   ·simp[h]
   ·have h2:¬k'=k:=λx=>h x.symm;simp[h,h2]
  ·have:=ih eF;unfold bq at this|-;simp only[List.find?_cons];by_cases h:e.1=k'
   ·have h2:¬k'=k:=λx=>GM (by rw[h,x]);simp[h,h2]
   ·simp only[h,decide_false];exact this
omit [DecidableEq α]in
def vH {lt:α->α->Bool}(l:List (α×β))(k:α)(v:β):(da lt l k v).Perm ((k,v)::l):=by
 induction l with
 |nil=>exact .refl _
 |cons e l ih=>
  simp only[da];split
  ·exact .refl _
  ·exact(ih.cons e).trans (.swap _ _ _)
end
section
variable {a:Act}{U:Hp}{J:Hp}{r:Ref}{b:Nat}{o:Obj}{H:Hid}{n:N}{X:Ext}{no:Nat}{nm:List UInt8}{c:CN}{k:Int}
variable {A:Lay}{id:Int}{h:HN}{q:QN}{x:XN}
def aq.le (a:aq A H n X U)(l:U.le J):aq A H n X J:=Hl.le a l
def aq.b0 (a:aq A H n X U):U.f 0=some (.cells #[rT 45] 143 (0,0)):=Hl.obj a (r:=.b0) rfl
def aq.b1 (a:aq A H n X U):U.f 1=some (.cells A.L1.toArray 396 (0,0)):=Hl.obj a (r:=.b1) rfl
def aq.gw (a:aq A H n X U):U.f A.gw=some (eP n.cfg A.br A.mc n.clock n.last):=Hl.obj a (r:=.gw) rfl
def aq.br (a:aq A H n X U):U.f A.br=some (iw A.mq n.cfg.queue n.messages n.bh):=Hl.obj a (r:=.br) rfl
def aq.mq (a:aq A H n X U):∃l c,U.f A.mq=some (aV bU l c)/\pN l c/\(l.map λe=>(e.1,e.2.1)).Perm (n.aN.map λe=>(e.1,pV (A.queue e.1))):=by obtain⟨o,h1,l,c,rfl,h2⟩:=a.has .mq _ rfl;exact⟨l,c,h1,h2⟩
def aq.mc (a:aq A H n X U):∃l c,U.f A.mc=some (aV aY l c)/\pN l c/\(l.map λe=>(e.1,e.2.1)).Perm (n.aF.map λe=>(e.1,pV (A.conn e.1))):=by obtain⟨o,h1,l,c,rfl,h2⟩:=a.has .mc _ rfl;exact⟨l,c,h1,h2⟩
def aq.conn (a:aq A H n X U)(hc:n.ar id=some c):U.f (A.conn id)=some (fI A.gw id (H.chm id) c.r):=Hl.obj a (r:=.conn id) (by simp[view,hc])
def aq.chm (a:aq A H n X U)(hc:n.ar id=some c):∃l k,U.f (H.chm id)=some (aV aY l k)/\pN l k/\(l.map λe=>(e.1,e.2.1)).Perm (c.ch.map λe=>((e.1:Int),pV (A.chan id e.1))):=by obtain⟨o,h1,l,k,rfl,h2⟩:=a.has (.chm id) (.pA (c.ch.map λe=>((e.1:Int),pV (A.chan id e.1)))) (by simp[view,hc]);exact⟨l,k,h1,h2⟩
def aq.chan (a:aq A H n X U)(hh:n.h? id no=some h):U.f (A.chan id no)=some (iF (A.conn id) no (A.un id no) (A.co id no) h.r):=Hl.obj a (r:=.chan id no) (by simp[view,hh])
def aq.un (a:aq A H n X U)(hh:n.h? id no=some h):∃l k,U.f (A.un id no)=some (aV aY l k)/\pN l k/\(l.map λe=>(e.1,e.2.1)).Perm (h.un.map λe=>((e.1:Int),uB (A.queue e.2.1) e.2.2)):=by obtain⟨o,h1,l,k,rfl,h2⟩:=a.has (.un id no) (.pA (h.un.map λe=>((e.1:Int),uB (A.queue e.2.1) e.2.2))) (by simp[view,hh]);exact⟨l,k,h1,h2⟩
def aq.co (a:aq A H n X U)(hh:n.h? id no=some h):∃l k,U.f (A.co id no)=some (aV bU l k)/\pN l k/\(l.map λe=>(e.1,e.2.1)).Perm (h.co.map λe=>(e.1,pV (A.cons e.2))):=by obtain⟨o,h1,l,k,rfl,h2⟩:=a.has (.co id no) (.yl (h.co.map λe=>(e.1,pV (A.cons e.2)))) (by simp[view,hh]);exact⟨l,k,h1,h2⟩
def aq.queue (a:aq A H n X U)(hq:n.q? nm=some q):U.f (A.queue nm)=some (fM nm (H.rv nm) q.held q.last (H.cv nm)):=Hl.obj a (r:=.queue nm) (by simp[view,hq])
def aq.cons (a:aq A H n X U)(hx:n.x? k=some x):U.f (A.cons k)=some (ln (A.chan x.id x.no) k x.tag (A.queue x.q) x.fG):=Hl.obj a (r:=.cons k) (by simp[view,hx])
def Hw {v:Value}(h:kU v=true):v=.slice none 0 0:=by
 unfold kU at h;split at h
 ·rfl
 ·cases h
def aq.fw (a:aq A H n X U)(hq:n.q? nm=some q):gN U q.ready (H.rv nm):=by
 by_cases h:kU (H.rv nm)=true/\q.ready=[]
 ·rw[Hw h.1];exact .none h.2
 ·obtain⟨o,h1,b,pre,pad,cc,e1,h2,h3,rfl⟩:=a.has (.fw nm) (.fw (H.rv nm) q.ready) (by simp only[view,hq,Option.bind_some,Ag,if_neg h]);have e:cI A H X (.fw nm)=b:=by simp[cI,e1,pP]
  rw[e]at h1;rw[e1];exact .at b pre pad cc h2 h3 h1
def aq.ix (a:aq A H n X U)(hq:n.q? nm=some q):Sl 186 U (q.cons.map λk=>pV (A.cons k)) (H.cv nm):=by
 by_cases h:kU (H.cv nm)=true/\(q.cons.map λk=>pV (A.cons k))=[]
 ·rw[Hw h.1];exact .nil h.2
 ·obtain⟨o,h1,b,pad,e1,rfl⟩:=a.has (.ix nm) (.ix (H.cv nm) (q.cons.map λk=>pV (A.cons k))) (by simp only[view,hq,Option.bind_some,CQ,if_neg h]);have e:cI A H X (.ix nm)=b:=by simp[cI,e1,pP]
  rw[e]at h1;rw[e1];exact .at b pad h1
def aq.ext (a:aq A H n X U){i:Nat}{p:Nat×Obj}(hi:X[i]? =some p):U.f p.1=some p.2:=by have:=Hl.obj a (r:=.ext i) (o:=p.2) (by simp[view,hi]);simpa[cI,hi]using this
def aq.ne (a:aq A H n X U){r r':Ref}(h:r≠r')(h1:(view n A H X r).isSome)(h2:(view n A H X r').isSome):cI A H X r≠cI A H X r':=λe=>h (a.inj r r' h1 h2 e)
end
section
variable {g:Option (Nat×Bool)}{r:Ref}{n:N}{no:Nat}{nm:List UInt8}{c:CN}{k:Int}{aL:Int}{dC:Nat}{dm:List UInt8}{f:CN->CN}{fr:CR->CR}{fh:HR->HR}{fq:QN->QN}
variable {id:Int}{g:HN->HN}
@[simp] def qF:(n.dN id f).ar aL=if aL=id then(n.ar aL).map f else n.ar aL:=Jl _ _ _ _
@[simp] def auv:(n.dN id f).q? nm=n.q? nm:=rfl
@[simp] def auR:(n.dN id f).x? k=n.x? k:=rfl
@[simp] def y9:(n.bH nm fq).ar id=n.ar id:=rfl
@[simp] def Bf:(n.bH nm fq).h? id no=n.h? id no:=rfl
@[simp] def ar9:(n.bH nm fq).x? k=n.x? k:=rfl
@[simp] def vn:(n.bH nm fq).q? dm=if dm=nm then(n.q? dm).map fq else n.q? dm:=Jl _ _ _ _
@[simp] def auy:(n.bA id fr).q? nm=n.q? nm:=rfl
@[simp] def auT:(n.bA id fr).x? k=n.x? k:=rfl
@[simp] def H0:(n.bB id no g).q? nm=n.q? nm:=rfl
@[simp] def ar8:(n.bB id no g).x? k=n.x? k:=rfl
@[simp] def qG:(n.bA id fr).ar aL=if aL=id then(n.ar aL).map (λc=>{c with r:=fr c.r})else n.ar aL:=qF
@[simp] def KE:(n.bA id fr).h? aL no=n.h? aL no:=by
 unfold N.h?;rw[qG];split
 ·cases n.ar aL<;>rfl
 ·rfl
@[simp] def vP:(n.bB id no g).ar aL=if aL=id then(n.ar aL).map (λc=>{c with ch:=dE c.ch no g})else n.ar aL:=qF
@[simp] def jZ:(n.bB id no g).h? aL dC=if aL=id/\dC=no then(n.h? aL dC).map g else n.h? aL dC:=by
 unfold N.h?;rw[vP];by_cases h:aL=id
 ·simp only[h,if_true,true_and]
  cases n.ar id with
  |none=>simp
  |some c=>simp only[Option.map_some,Option.bind_some,Jl]
 ·simp only[h,if_false,false_and]
@[simp] def JJ:(n.cN id no fh).ar aL=if aL=id then(n.ar aL).map (λc=>{c with ch:=dE c.ch no λh=>{h with r:=fh h.r}})else n.ar aL:=vP
@[simp] def KD:(n.cN id no fh).h? aL dC=if aL=id/\dC=no then(n.h? aL dC).map (λh=>{h with r:=fh h.r})else n.h? aL dC:=jZ
@[simp] def auw:(n.cN id no fh).q? nm=n.q? nm:=rfl
@[simp] def auS:(n.cN id no fh).x? k=n.x? k:=rfl
@[simp] def auu {s:List UInt8}:(n.send id s).q? nm=n.q? nm:=rfl
@[simp] def Wy {s:List UInt8}:(n.send id s).x? k=n.x? k:=rfl
@[simp] def pZ {s:List UInt8}:(n.send id s).h? aL no=n.h? aL no:=KE
@[simp] def sZ {s:List UInt8}:(n.send id s).ar aL=if aL=id then(n.ar aL).map (λc=>{c with r:={c.r with out:=c.r.out++s,iq:=n.clock}})else n.ar aL:=qG
def Dm {c:CN}{h:HN}(hh:n.h? id no=some h)(hc:n.ar id=some c):bq c.ch no=some h:=by simpa[N.h?,hc]using hh
def xL {h:HN}(hh:n.h? id no=some h):∃c,n.ar id=some c:=by
 cases hc:n.ar id with
 |none=>simp[N.h?,hc]at hh
 |some c=>exact⟨c,rfl⟩
end
section
variable {a:Act}{U:Hp}{g:Option (Nat×Bool)}{β:Type}{r:Ref}{b:Nat}{o:Obj}{H:Hid}{n:N}{X:Ext}{no:Nat}{nm:List UInt8}{c:CN}{k:Int}{f:CN->CN}
variable {A:Lay}{id:Int}{h:HN}{q:QN}{x:XN}
def aq.fresh (a:aq A H n X U){b:Nat}(hb:U.f b=none)(o:Obj):aq A H n X (U.set b o):=a.le (λx y hx=>by rw[Hp.az (bj hb hx)];exact hx)
def aq.aps (a:aq A H n X U)(cl la:Int):aq A H {n with clock:=cl,last:=la} X (U.set A.gw (eP n.cfg A.br A.mc cl la)):=
 (Hl.vr a (r:=.gw) rfl _).congr (λr=>by cases r<;>simp[view,upd,N.ar,N.h?,N.q?,N.x?]) (λ_ _=>rfl)
def aq.Vw (a:aq A H n X U)(me bh:Int):aq A H {n with messages:=me,bh:=bh} X (U.set A.br (iw A.mq n.cfg.queue me bh)):=
 (Hl.vr a (r:=.br) rfl _).congr (λr=>by cases r<;>simp[view,upd,N.ar,N.h?,N.q?,N.x?]) (λ_ _=>rfl)
def aq.mQ (a:aq A H n X U)(hc:n.ar id=some c)(f:CR->CR):aq A H (n.bA id f) X (U.set (A.conn id) (fI A.gw id (H.chm id) (f c.r))):=
 (Hl.vr a (r:=.conn id) (by simp[view,hc]) _).congr (λr=>by
  cases r
  case conn i=>by_cases e:i=id<;>simp[view,upd,e,hc]
  case chm i=>by_cases e:i=id<;>simp[view,upd,e,hc]
  case mc=>simp only[view,upd,N.bA,N.dN,reduceCtorEq,if_false];rw[oP _ _ _ λi=>(i,pV (A.conn i))]
  all_goals simp[view,upd]<;>rfl) (λ_ _=>rfl)
def Mm {α γ δ:Type}{F:α->γ}(g:γ->δ){x y:Option α}(h:x.map F=y.map F):(x.map λa=>g (F a))=y.map λa=>g (F a):=by
 have e:∀z:Option α,(z.map λa=>g (F a))=(z.map F).map g:=λz=>by cases z<;>rfl
 rw[e,e,h]
def NM {γ:Type}{f:HN->HN}(F:HN->γ)(h:∀x,n.h? id no=some x->F (f x)=F x)(i:Int)(j:Nat):((n.bB id no f).h? i j).map F=(n.h? i j).map F:=by
 rw[jZ];split
 ·rename_i e;obtain⟨rfl,rfl⟩:=e
  cases hx:n.h? i j with
  |none=>rfl
  |some x=>simp[h x hx]
 ·rfl
def NL {γ:Type}{f:HN->HN}(F:HN->γ){i:Int}{j:Nat}(h:¬(i=id/\j=no)):((n.bB id no f).h? i j).map F=(n.h? i j).map F:=by rw[jZ,if_neg h]
def NO {f:HN->HN}{v:V}{r0:Ref}(h1:(∀x,n.h? id no=some x->(f x).r=x.r)\/r0=.chan id no)(h2:(∀x,n.h? id no=some x->(f x).un=x.un)\/r0=.un id no)(h3:(∀x,n.h? id no=some x->(f x).co=x.co)\/r0=.co id no)
 (hv:view (n.bB id no f) A H X r0=some v):∀r,view (n.bB id no f) A H X r=upd (view n A H X) r0 (some v) r:=by
 intro r;by_cases e:r=r0
 ·subst e;simp[upd,hv]
 simp only[upd,if_neg e]
 cases r with
 |chan i j=>
  refine Mm (F:=λh:HN=>h.r) (λr=>V.obj (iF (A.conn i) j (A.un i j) (A.co i j) r)) ?_;rcases h1 with h|rfl
  ·exact NM _ h i j
  ·exact NL _ λx=>e (by rw[x.1,x.2])
 |un i j=>
  refine Mm (F:=λh:HN=>h.un) (λl=>V.pA (l.map λe=>((e.1:Int),uB (A.queue e.2.1) e.2.2))) ?_;rcases h2 with h|rfl
  ·exact NM _ h i j
  ·exact NL _ λx=>e (by rw[x.1,x.2])
 |co i j=>
  refine Mm (F:=λh:HN=>h.co) (λl=>V.yl (l.map λe=>(e.1,pV (A.cons e.2)))) ?_;rcases h3 with h|rfl
  ·exact NM _ h i j
  ·exact NL _ λx=>e (by rw[x.1,x.2])
 |mc=>simp only[view,N.bB,N.dN];rw[oP _ _ _ λi=>(i,pV (A.conn i))]
 |conn i=>
  simp only[view,vP];split
  ·cases n.ar i<;>rfl
  ·rfl
 |chm i=>
  simp only[view,vP];split
  ·cases n.ar i with
   |none=>rfl
   |some c=>simp only[Option.map_some];rw[oP _ _ _ λj:Nat=>((j:Int),pV (A.chan i j))]
  ·rfl
 |_=>rfl
def aq.setH (a:aq A H n X U)(hh:n.h? id no=some h)(f:HN->HN)(h1:(f h).un=h.un)(h2:(f h).co=h.co):aq A H (n.bB id no f) X (U.set (A.chan id no) (iF (A.conn id) no (A.un id no) (A.co id no) (f h).r)):=by have k:=Hl.vr a (r:=.chan id no) (by simp[view,hh]) (iF (A.conn id) no (A.un id no) (A.co id no) (f h).r);exact Hl.congr k (NO (f:=f) (.inr rfl) (.inl λx hx=>by rw[hh]at hx;cases hx;exact h1) (.inl λx hx=>by rw[hh]at hx;cases hx;exact h2) (by simp[view,hh])) (λ_ _=>rfl)
def aq.yA (a:aq A H n X U)(hh:n.h? id no=some h)(f:HR->HR):aq A H (n.cN id no f) X (U.set (A.chan id no) (iF (A.conn id) no (A.un id no) (A.co id no) (f h.r))):=a.setH hh (λh=>{h with r:=f h.r}) rfl rfl
def aq.Vz (a:aq A H n X U)(hh:n.h? id no=some h)(f:HN->HN)(h1:(f h).r=h.r)(h2:(f h).co=h.co)(ho:oM (.pA ((f h).un.map λe=>((e.1:Int),uB (A.queue e.2.1) e.2.2))) o):
 aq A H (n.bB id no f) X (U.set (A.un id no) o):=by
 have k:=Hl.set a (r:=.un id no) (by simp[view,hh]) ho;exact Hl.congr k (NO (f:=f) (.inl λx hx=>by rw[hh]at hx;cases hx;exact h1) (.inr rfl) (.inl λx hx=>by rw[hh]at hx;cases hx;exact h2) (by simp[view,hh])) (λ_ _=>rfl)
def aq.Nc (a:aq A H n X U)(hh:n.h? id no=some h)(f:HN->HN)(h1:(f h).r=h.r)(h2:(f h).un=h.un)(ho:oM (.yl ((f h).co.map λe=>(e.1,pV (A.cons e.2)))) o):
 aq A H (n.bB id no f) X (U.set (A.co id no) o):=by
 have k:=Hl.set a (r:=.co id no) (by simp[view,hh]) ho;exact Hl.congr k (NO (f:=f) (.inl λx hx=>by rw[hh]at hx;cases hx;exact h1) (.inl λx hx=>by rw[hh]at hx;cases hx;exact h2) (.inr rfl) (by simp[view,hh])) (λ_ _=>rfl)
def aq.Ih (a:aq A H n X U)(hq:n.q? nm=some q)(f:QN->QN)(h1:(f q).ready=q.ready)(h2:(f q).cons=q.cons):aq A H (n.bH nm f) X (U.set (A.queue nm) (fM nm (H.rv nm) (f q).held (f q).last (H.cv nm))):=
 (Hl.vr a (r:=.queue nm) (by simp[view,hq]) _).congr (λr=>by
  cases r
  case queue i=>by_cases e:i=nm<;>simp[view,upd,e,hq]
  case fw i=>by_cases e:i=nm<;>simp[view,upd,e,hq,h1]
  case ix i=>by_cases e:i=nm<;>simp[view,upd,e,hq,h2]
  case mq=>simp only[view,upd,N.bH,reduceCtorEq,if_false];rw[oP _ _ _ λi=>(i,pV (A.queue i))]
  all_goals simp[view,upd]<;>rfl) (λ_ _=>rfl)
def aq.jG (a:aq A H n X U):U.f A.gw=some (.cells [iV n.cfg.jq,iV n.cfg.frame,iV n.cfg.gD,iV n.cfg.queue,iV n.cfg.body,pV A.br,iV n.clock,iV n.last,.map (some A.mc)].toArray 74 (0,0)):=a.gw
def aq.uf (a:aq A H n X U):U.f A.br=some (.cells [.map (some A.mq),iV n.cfg.queue,iV n.messages,iV n.bh].toArray 116 (0,0)):=a.br
def aq.eJ (a:aq A H n X U)(hc:n.ar id=some c):U.f (A.conn id)=some (.cells [pV A.gw,iV id,iV c.r.ph,sV c.r.rest,.bool c.r.iy,.map (some (H.chm id)),iV c.r.cZ,iV c.r.frame,iV c.r.gD,iV c.r.iq,iV c.r.recv,sV c.r.out].toArray 90 (0,0)):=a.conn hc
def aq.bX (a:aq A H n X U)(hh:n.h? id no=some h):U.f (A.chan id no)=some (.cells [pV (A.conn id),iV no,.bool h.r.closing,iV h.r.mj,iV h.r.tag,.map (some (A.un id no)),.map (some (A.co id no)),iV h.r.want,sV h.r.key,sV h.r.body,iV h.r.size].toArray 276 (0,0)):=a.chan hh
def aq.tN (a:aq A H n X U)(hq:n.q? nm=some q):U.f (A.queue nm)=some (.cells [sV nm,H.rv nm,iV q.held,iV q.last,H.cv nm].toArray 81 (0,0)):=a.queue hq
def aq.vQ (a:aq A H n X U)(hx:n.x? k=some x):U.f (A.cons k)=some (.cells [.iface 185 (pV (A.chan x.id x.no)),iV k,sV x.tag,pV (A.queue x.q),.bool x.fG].toArray 191 (0,0)):=a.cons hx
def aq.eK {p:Nat×Obj}(a:aq A H n (p::X) U):U.f p.1=some p.2:=a.ext (i:=0) rfl
def aq.ext1 {p q:Nat×Obj}(a:aq A H n (q::p::X) U):U.f p.1=some p.2:=a.ext (i:=1) rfl
def Jp {α β:Type}[DecidableEq α](l:List (α×β))(k:α)(f g:β->β):dE (dE l k f) k g=dE l k λx=>g (f x):=by unfold dE;rw[List.map_map];apply List.map_congr_left;intro e _;simp only[Function.comp];by_cases h:e.1=k<;>simp[h]
def Fp (f g:QN->QN):(n.bH nm f).bH nm g=n.bH nm λq=>g (f q):=by simp only[N.bH,Jp]
def ars:n.bH nm (λq=>q)=n:=by
 have:dE n.aN nm (λq=>q)=n.aN:=by unfold dE;conv=>rhs;rw[<-List.map_id n.aN]
                                  exact List.map_congr_left λe _=>al
 simp only[N.bH,this]
def NK (f g:CN->CN):(n.dN id f).dN id g=n.dN id λc=>g (f c):=by simp only[N.dN,Jp]
def NN (f g:HN->HN):(n.bB id no f).bB id no g=n.bB id no λh=>g (f h):=by simp only[N.bB,NK,Jp]
end
def Hid.jO(H:Hid)(nm:List UInt8)(v:Value):Hid:={H with rv:=λx=>if x=nm then v else H.rv x}
def Hid.pG(H:Hid)(nm:List UInt8)(v:Value):Hid:={H with cv:=λx=>if x=nm then v else H.cv x}
def Hid.vp(H:Hid)(id:Int)(b:Nat):Hid:={H with chm:=λx=>if x=id then b else H.chm x}
def Apart(w:Ref->Option V)(ad:Ref->Nat)(r:Ref)(b:Nat):Prop:=∀r',r'≠r->(w r').isSome->ad r'≠b
variable {w:Ref->Option V}{ad:Ref->Nat}
def Hl.apart(h:Hl w ad U)(r:Ref)(hr:(w r).isSome):Apart w ad r (ad r):=λr' aE hs e=>aE (h.inj r' r hs hr e)
variable {f:CN->CN}
def Hl.ud(h:Hl w ad U)(r:Ref)(hb:U.f b=none):Apart w ad r b:=λr' _ hs e=>by obtain⟨u,hu⟩:=Option.isSome_iff_exists.1 hs;obtain⟨o',h1,_⟩:=h.has r' u hu;rw[e,hb]at h1;cases h1
section
variable {a:Act}{U:Hp}{w':Ref->Option V}{r:Ref}{b:Nat}{o:Obj}{H:Hid}{n:N}{X:Ext}{nm:List UInt8}{c:CN}{k:Int}{f:CN->CN}
variable {A:Lay}{id:Int}{h:HN}{q:QN}{x:XN}
def akW {v:Value}{ms:List aM}(h:gN U ms v)(hn:kU v=false):∃o,U.f (pP v)=some o/\oM (.fw v ms) o:=by
 cases h with
 |none e=>cases hn
 |«at»a pre pad c h1 h2 h3=>exact⟨_,h3,a,pre,pad,c,rfl,h1,h2,rfl⟩
def Ve (hq:n.q? nm=some q)(hn:kU (H.rv nm)=false):view n A H X (.fw nm)=some (.fw (H.rv nm) q.ready):=by simp[view,hq,Ag,hn]
def Qc (hq:n.q? nm=some q)(hn:kU (H.cv nm)=false):view n A H X (.ix nm)=some (.ix (H.cv nm) (q.cons.map λk=>pV (A.cons k))):=by simp[view,hq,CQ,hn]
def aq.Nd (a:aq A H n X U)(hq:n.q? nm=some q){rv:Value}(f:QN->QN)(hf:(f q).cons=q.cons)(hb:Apart (view n A H X) (cI A H X) (.fw nm) b)(ho:oM (.fw rv (f q).ready) o)(Du:pP rv=b):
 aq A (H.jO nm rv) (n.bH nm f) X ((U.set b o).set (A.queue nm) (fM nm rv (f q).held (f q).last (H.cv nm))):=by
 have h1:=Hl.put a hb ho;have h2:=Hl.vr h1 (r:=.queue nm) (by simp[upd,view,hq]) (fM nm rv (f q).held (f q).last (H.cv nm));have e2:upd (cI A H X) (.fw nm) b (.queue nm)=A.queue nm:=by simp[upd,cI]
 rw[e2]at h2
 have qg:¬(kU rv=true/\(f q).ready=[]):=by rintro⟨e,_⟩;obtain⟨_,_,_,_,e2,_⟩:=ho;rw[Hw e]at e2;simp at e2
 refine Hl.congr h2 (λr=>?_) (λr hr=>?_)
 ·cases r
  case queue i=>by_cases e:i=nm<;>simp[view,upd,e,hq,Hid.jO]
  case fw i=>by_cases e:i=nm<;>simp[view,upd,e,hq,Hid.jO,Ag,qg]
  case ix i=>by_cases e:i=nm<;>simp[view,upd,e,hq,Hid.jO,hf]
  case mq=>simp only[view,upd,N.bH,reduceCtorEq,if_false];rw[oP _ _ _ λi=>(i,pV (A.queue i))]
  all_goals simp[view,upd]<;>rfl
 ·cases r
  case fw i=>by_cases e:i=nm<;>simp[cI,upd,e,Du,Hid.jO]
  all_goals simp[cI,upd]<;>rfl
def aq.alP (a:aq A H n X U)(hq:n.q? nm=some q)(f:QN->QN)(hf:(f q).cons=q.cons)(hr:(f q).ready=[]):
 aq A (H.jO nm (.slice none 0 0)) (n.bH nm f) X (U.set (A.queue nm) (fM nm (.slice none 0 0) (f q).held (f q).last (H.cv nm))):=by
 have h1:=Hl.sub (w':=upd (view n A H X) (.fw nm) none) a (λr=>by by_cases e:r=.fw nm<;>simp[upd,e]);have h2:=Hl.vr h1 (r:=.queue nm) (by simp[upd,view,hq]) (fM nm (.slice none 0 0) (f q).held (f q).last (H.cv nm));refine Hl.congr h2 (λr=>?_) (λr bZ=>?_)
 ·cases r
  case queue i=>by_cases e:i=nm<;>simp[view,upd,e,hq,Hid.jO]
  case fw i=>
   by_cases e:i=nm
   ·simp[view,upd,e,hq,Hid.jO,Ag,kU,hr]
   ·simp[view,upd,e,Hid.jO]
  case ix i=>by_cases e:i=nm<;>simp[view,upd,e,hq,Hid.jO,hf]
  case mq=>simp only[view,upd,N.bH,reduceCtorEq,if_false];rw[oP _ _ _ λi=>(i,pV (A.queue i))]
  all_goals simp[view,upd]<;>rfl
 ·cases r
  case fw i=>
   by_cases e:i=nm
   ·subst e;simp[view,hq,Hid.jO,Ag,kU,hr]at bZ
   ·simp[cI,e,Hid.jO]
  all_goals simp[cI]<;>rfl
def aq.ajs (a:aq A H n X U)(hq:n.q? nm=some q){rv:Value}(f:QN->QN)(hf:(f q).cons=q.cons)(hn:kU (H.rv nm)=false)(D3:kU rv=false)(hm:gN U (f q).ready rv)(hb:pP rv=pP (H.rv nm)):
 aq A (H.jO nm rv) (n.bH nm f) X (U.set (A.queue nm) (fM nm rv (f q).held (f q).last (H.cv nm))):=by
 obtain⟨o,h1,h2⟩:=akW hm D3;have:=a.Nd hq (b:=pP rv) f hf (by rw[hb];exact Hl.apart a (.fw nm) (by rw[Ve hq hn];rfl)) h2 rfl;rwa[Hb h1]at this
def aq.Vx (a:aq A H n X U)(hq:n.q? nm=some q){cv:Value}(f:QN->QN)(hf:(f q).ready=q.ready)(hb:Apart (view n A H X) (cI A H X) (.ix nm) b)(ho:oM (.ix cv ((f q).cons.map λk=>pV (A.cons k))) o)(Du:pP cv=b):
 aq A (H.pG nm cv) (n.bH nm f) X ((U.set b o).set (A.queue nm) (fM nm (H.rv nm) (f q).held (f q).last cv)):=by
 have h1:=Hl.put a hb ho;have h2:=Hl.vr h1 (r:=.queue nm) (by simp[upd,view,hq]) (fM nm (H.rv nm) (f q).held (f q).last cv);have e2:upd (cI A H X) (.ix nm) b (.queue nm)=A.queue nm:=by simp[upd,cI]
 rw[e2]at h2
 have qg:¬(kU cv=true/\(f q).cons=[]):=by rintro⟨e,_⟩;obtain⟨_,_,e2,_⟩:=ho;rw[Hw e]at e2;simp at e2
 refine Hl.congr h2 (λr=>?_) (λr hr=>?_)
 ·cases r
  case queue i=>by_cases e:i=nm<;>simp[view,upd,e,hq,Hid.pG]
  case ix i=>by_cases e:i=nm<;>simp[view,upd,e,hq,Hid.pG,CQ,qg]
  case fw i=>by_cases e:i=nm<;>simp[view,upd,e,hq,Hid.pG,hf]
  case mq=>simp only[view,upd,N.bH,reduceCtorEq,if_false];rw[oP _ _ _ λi=>(i,pV (A.queue i))]
  all_goals simp[view,upd]<;>rfl
 ·cases r
  case ix i=>by_cases e:i=nm<;>simp[cI,upd,e,Du,Hid.pG]
  all_goals simp[cI,upd]<;>rfl
def aq.Qg (a:aq A H n X U)(k:Int):aq A H {n with xs:=cC n.xs k} X U:=
 Hl.sub a (λr=>by
  cases r
  case cons j=>
   by_cases e:j=k
   ·exact .inl (by simp[view,N.x?,CE,e])
   ·exact .inr (by simp[view,N.x?,CE,e])
  all_goals exact .inr rfl)
def aq.iR (a:aq A H n X U)(hb:U.f b=none)(o:Obj):aq A H n ((b,o)::X) (U.set b o):=by
 have hd:∀r,(∃i,r=.ext i)\/(view n A H X r=view n A H ((b,o)::X) r/\cI A H X r=cI A H ((b,o)::X) r):=λr=>by cases r<;>first|exact .inr ⟨rfl,rfl⟩|exact .inl ⟨_,rfl⟩
 have aE:∀r v,view n A H X r=some v->cI A H X r≠b:=λr v hv e=>by obtain⟨o',h1,_⟩:=a.has r v hv;rw[e,hb]at h1;cases h1
 have es:∀i,view n A H ((b,o)::X) (.ext (i+1))=view n A H X (.ext i):=λi=>by simp[view]
 have ea:∀i,cI A H ((b,o)::X) (.ext (i+1))=cI A H X (.ext i):=λi=>by simp[cI]
 have e0:view n A H ((b,o)::X) (.ext 0)=some (.obj o):=by simp[view]
 have JR:cI A H ((b,o)::X) (.ext 0)=b:=by simp[cI]
 have key:∀r,r=.ext 0\/∃r',(r=r'/\(∀i,r≠.ext i)\/∃i,r=.ext (i+1)/\r'=.ext i)/\view n A H ((b,o)::X) r=view n A H X r'/\cI A H ((b,o)::X) r=cI A H X r':=by
  intro r;rcases hd r with⟨i,rfl⟩|⟨h1,h2⟩
  ·cases i with
   |zero=>exact .inl rfl
   |succ i=>exact .inr ⟨.ext i,.inr ⟨i,rfl,rfl⟩,es i,ea i⟩
  ·by_cases he:∃i,r=.ext i
   ·obtain⟨i,rfl⟩:=he
    cases i with
    |zero=>exact .inl rfl
    |succ i=>exact .inr ⟨.ext i,.inr ⟨i,rfl,rfl⟩,es i,ea i⟩
   ·exact .inr ⟨r,.inl ⟨rfl,λi e=>he ⟨i,e⟩⟩,h1.symm,h2.symm⟩
 refine⟨λr v hv=>?_,λr r' hr eX e=>?_⟩
 ·rcases key r with rfl|⟨r',_,h1,h2⟩
  ·rw[e0]at hv;cases hv
   exact⟨o,by rw[JR];exact Hp.bD _ _,rfl⟩
  ·rw[h1]at hv;rw[h2];obtain⟨o',k1,k2⟩:=a.has r' v hv;exact⟨o',by rw[Hp.az (aE r' v hv)];exact k1,k2⟩
 ·obtain⟨v,hv⟩:=Option.isSome_iff_exists.1 hr;obtain⟨v',Hn⟩:=Option.isSome_iff_exists.1 eX;rcases key r with rfl|⟨s,hs,h1,h2⟩<;>rcases key r' with rfl|⟨s',cU,rP,lr⟩
  ·rfl
  ·rw[JR,lr]at e;rw[rP]at Hn;exact absurd e.symm (aE _ _ Hn)
  ·rw[JR,h2]at e;rw[h1]at hv;exact absurd e (aE _ _ hv)
  ·rw[h2,lr]at e;have:=a.inj s s' (by rw[<-h1];exact hr) (by rw[<-rP];exact eX) e;subst this;rcases hs with⟨rfl,g1⟩|⟨i,rfl,rfl⟩<;>rcases cU with⟨rfl,g2⟩|⟨j,rfl,g3⟩
   ·rfl
   ·exact absurd g3 (g1 j)
   ·exact absurd rfl (g2 i)
   ·cases g3;rfl
def aq.oW {p:Nat×Obj}(a:aq A H n (p::X) U):aq A H n X U:=by
 have key:∀r,∃r',view n A H X r=view n A H (p::X) r'/\cI A H X r=cI A H (p::X) r'/\(r'=r/\(∀i,r≠.ext i)\/∃i,r=.ext i/\r'=.ext (i+1)):=by
  intro r;by_cases he:∃i,r=.ext i
  ·obtain⟨i,rfl⟩:=he;exact⟨.ext (i+1),by simp[view],by simp[cI],.inr ⟨i,rfl,rfl⟩⟩
  ·refine⟨r,?_,?_,.inl ⟨rfl,λi e=>he ⟨i,e⟩⟩⟩<;>cases r<;>first|rfl|exact absurd ⟨_,rfl⟩ he
 refine⟨λr v hv=>?_,λr s hr hs e=>?_⟩
 ·obtain⟨r',h1,h2,_⟩:=key r;rw[h2];exact a.has r' v (by rw[<-h1];exact hv)
 ·obtain⟨r',h1,h2,h3⟩:=key r;obtain⟨s',g1,g2,g3⟩:=key s;have:=a.inj r' s' (by rw[<-h1];exact hr) (by rw[<-g1];exact hs) (by rw[<-h2,<-g2];exact e);subst this;rcases h3 with⟨rfl,f1⟩|⟨i,rfl,rfl⟩<;>rcases g3 with⟨rfl,f2⟩|⟨j,rfl,e2⟩
  ·rfl
  ·exact absurd e2 (f1 _)
  ·exact absurd rfl (f2 _)
  ·cases e2;rfl
def aq.Ao (a:aq A H n X U){i:Nat}{p:Nat×Obj}(hi:X[i]? =some p)(o:Obj):aq A H n (X.set i (p.1,o)) (U.set p.1 o):=by
 have hl:i<X.length:=(List.getElem?_eq_some_iff.1 hi).1;have e:cI A H X (.ext i)=p.1:=by simp[cI,hi]
 have h1:=Hl.vr a (r:=.ext i) (by simp[view,hi]) o;rw[e]at h1;refine Hl.congr h1 (λr=>?_) (λr hr=>?_)
 ·cases r
  case ext j=>
   by_cases e:i=j
   ·subst e;simp[view,upd,hl]
   ·have:¬Ref.ext j=.ext i:=λx=>e (by cases x;rfl);simp[view,upd,List.getElem?_set_ne e,this]
  all_goals simp[view,upd]
 ·cases r
  case ext j=>
   by_cases e:i=j
   ·subst e;obtain⟨_,e⟩:=List.getElem?_eq_some_iff.1 hi;simp[cI,hl,e]
   ·simp[cI,List.getElem?_set_ne e]
  all_goals simp[cI]
def aq.vq {p:Nat×Obj}(a:aq A H n (p::X) U)(o:Obj):aq A H n ((p.1,o)::X) (U.set p.1 o):=a.Ao (i:=0) rfl o
end
variable {n:N}{no:Nat}{nm:List UInt8}{k:Int}
structure Wf (n:N):Prop where
 un:∀id no h,n.h? id no=some h->∀e∈h.un,(n.q? e.2.1).isSome
 xq:∀k x,n.x? k=some x->(n.q? x.q).isSome
 xh:∀k x,n.x? k=some x->∃h,n.h? x.id x.no=some h/\bq h.co x.tag=some k
 co:∀id no h,n.h? id no=some h->∀e∈h.co,∃x,n.x? e.2=some x/\x.id=id/\x.no=no/\x.tag=e.1
 qc:∀nm q,n.q? nm=some q->∀k∈q.cons,∃x,n.x? k=some x/\x.q=nm
section
variable {a:Act}{U:Hp}{g:Option (Nat×Bool)}{β:Type}{w:Ref->Option V}{r:Ref}{b:Nat}{o:Obj}{H:Hid}{n:N}{X:Ext}{no:Nat}{nm:List UInt8}{c:CN}{k:Int}{f:CN->CN}{A':Lay}{H':Hid}
variable {A:Lay}{id:Int}{h:HN}{q:QN}{x:XN}
def ajB {id:Int}{c:CN}(h:(id,c)∈n.aF):(n.ar id).isSome:=by
 cases e:n.ar id with
 |none=>exact absurd rfl (ja e _ h)
 |some _=>rfl
def ajA {no:Nat}{h:HN}{c:CN}(hc:n.ar id=some c)(hm:(no,h)∈c.ch):(n.h? id no).isSome:=by
 unfold N.h?;rw[hc,Option.bind_some]
 cases e:bq c.ch no with
 |none=>exact absurd rfl (ja e _ hm)
 |some _=>rfl
def yg {nm:List UInt8}{q:QN}(h:(nm,q)∈n.aN):(n.q? nm).isSome:=by
 cases e:n.q? nm with
 |none=>exact absurd rfl (ja e _ h)
 |some _=>rfl
structure N9 (n:N) (A A':Lay) (H H':Hid):Prop where
 gw:A'.gw=A.gw
 br:A'.br=A.br
 mq:A'.mq=A.mq
 mc:A'.mc=A.mc
 l1:A'.L1=A.L1
 conn:∀id,(n.ar id).isSome->A'.conn id=A.conn id/\H'.chm id=H.chm id
 chan:∀id no,(n.h? id no).isSome->A'.chan id no=A.chan id no/\A'.un id no=A.un id no/\A'.co id no=A.co id no
 queue:∀nm,(n.q? nm).isSome->A'.queue nm=A.queue nm/\H'.rv nm=H.rv nm/\H'.cv nm=H.cv nm
 cons:∀k,(n.x? k).isSome->A'.cons k=A.cons k
def afc (hh:n.h? id no=some h):(n.ar id).isSome:=by obtain⟨c,hc⟩:=xL hh;rw[hc];rfl
def aq.Ib (a:aq A H n X U)(w:Wf n)(g:N9 n A A' H H'):aq A' H' n X U:=by
 have hv:∀r,view n A' H' X r=view n A H X r:=by
  intro r
  cases r with
  |b0|ext=>rfl
  |b1=>simp[view,g.l1]
  |gw=>simp[view,g.br,g.mc]
  |br=>simp[view,g.mq]
  |mq=>simp only[view];congr 2;exact List.map_congr_left λe he=>by rw[(g.queue e.1 (yg he)).1]
  |mc=>simp only[view];congr 2;exact List.map_congr_left λe he=>by rw[(g.conn e.1 (ajB he)).1]
  |conn id=>simp only[view];cases hc:n.ar id with
   |none=>rfl
   |some c=>simp[g.gw,(g.conn id (by rw[hc];rfl)).2]
  |chm id=>simp only[view];cases hc:n.ar id with
   |none=>rfl
   |some c=>simp only[Option.map_some];congr 2;exact List.map_congr_left λe he=>by rw[(g.chan id e.1 (ajA hc he)).1]
  |chan id no=>simp only[view];cases hh:n.h? id no with
   |none=>rfl
   |some h=>obtain⟨_,e2,e3⟩:=g.chan id no (by rw[hh];rfl);simp[e2,e3,(g.conn id (afc hh)).1]
  |un id no=>simp only[view];cases hh:n.h? id no with
   |none=>rfl
   |some h=>simp only[Option.map_some];congr 2;exact List.map_congr_left λe he=>by rw[(g.queue e.2.1 (w.un id no h hh e he)).1]
  |co id no=>simp only[view];cases hh:n.h? id no with
   |none=>rfl
   |some h=>simp only[Option.map_some];congr 2;exact List.map_congr_left λe he=>by obtain⟨x,hx,_⟩:=w.co id no h hh e he;rw[g.cons e.2 (by rw[hx];rfl)]
  |queue nm=>simp only[view];cases hq:n.q? nm with
   |none=>rfl
   |some q=>obtain⟨_,e2,e3⟩:=g.queue nm (by rw[hq];rfl);simp[e2,e3]
  |fw nm=>simp only[view];cases hq:n.q? nm with
   |none=>rfl
   |some q=>obtain⟨_,e2,e3⟩:=g.queue nm (by rw[hq];rfl);simp[e2]
  |ix nm=>simp only[view];cases hq:n.q? nm with
   |none=>rfl
   |some q=>
    obtain⟨_,e2,e3⟩:=g.queue nm (by rw[hq];rfl);have:(q.cons.map λk=>pV (A'.cons k))=q.cons.map λk=>pV (A.cons k):=List.map_congr_left λk hk=>by obtain⟨x,hx,_⟩:=w.qc nm q hq k hk;rw[g.cons k (by rw[hx];rfl)]
    simp[e3,this]
  |cons k=>simp only[view];cases hx:n.x? k with
   |none=>rfl
   |some x=>obtain⟨h,hh,_⟩:=w.xh k x hx;simp[(g.chan x.id x.no (by rw[hh];rfl)).1,(g.queue x.q (w.xq k x hx)).1]
 refine Hl.congr a hv (λr hr=>?_);have nn:∀{α β:Type} {o:Option α} {f:α->β},(o.map f).isSome->o.isSome:=λh=>by simpa using h
 have nb:∀{α β:Type} {o:Option α} {f:α->Option β},(o.bind f).isSome->o.isSome:=λ{α β o f} h=>by cases o with|none=>cases h|some=>rfl
 cases r with
 |b0|b1|ext=>rfl
 |gw=>exact g.gw
 |br=>exact g.br
 |mq=>exact g.mq
 |mc=>exact g.mc
 |conn id=>exact(g.conn id (nn hr)).1
 |chm id=>exact(g.conn id (nn hr)).2
 |chan id no=>exact(g.chan id no (nn hr)).1
 |un id no=>exact(g.chan id no (nn hr)).2.1
 |co id no=>exact(g.chan id no (nn hr)).2.2
 |queue nm=>exact(g.queue nm (nn hr)).1
 |fw nm=>simp only[cI];rw[(g.queue nm (nb hr)).2.1]
 |ix nm=>simp only[cI];rw[(g.queue nm (nb hr)).2.2]
 |cons k=>exact g.cons k (nn hr)
def Lay.tQ (A:Lay)(nm:List UInt8)(b:Nat):Lay:={A with queue:=λx=>if x=nm then b else A.queue x}
def Nl {α β:Type}[DecidableEq α]{f:α->Option β}{a x:α}(h:f a=none)(hx:(f x).isSome):¬x=a:=λe=>by subst e;rw[h]at hx;cases hx
def aq.alg (a:aq A H n X U)(w:Wf n)(hq:n.q? nm=none)(hb:U.f b=none)(ho:oM (.yl ((da cP n.aN nm ⟨[],0,0,[]⟩).map λe=>(e.1,pV ((A.tQ nm b).queue e.1)))) o):
 aq (A.tQ nm b) ((H.jO nm (.slice none 0 0)).pG nm (.slice none 0 0)) {n with aN:=da cP n.aN nm ⟨[],0,0,[]⟩} X ((U.set b (fM nm (.slice none 0 0) 0 0 (.slice none 0 0))).set A.mq o):=by
 have h0:=a.Ib w (A':=A.tQ nm b) (H':=(H.jO nm (.slice none 0 0)).pG nm (.slice none 0 0)) ⟨rfl,rfl,rfl,rfl,rfl,λ_ _=>⟨rfl,rfl⟩,λ_ _ _=>⟨rfl,rfl,rfl⟩,λx hx=>by simp[Lay.tQ,Hid.jO,Hid.pG,Nl (f:=n.q?) hq hx],λ_ _=>rfl⟩;have h1:=Hl.put h0 (r:=.queue nm) (b:=b) (v:=.obj (fM nm (.slice none 0 0) 0 0 (.slice none 0 0))) (Hl.ud h0 _ hb) (_root_.id rfl)
 have e1:upd (cI (A.tQ nm b) ((H.jO nm (.slice none 0 0)).pG nm (.slice none 0 0)) X) (.queue nm) b=cI (A.tQ nm b) ((H.jO nm (.slice none 0 0)).pG nm (.slice none 0 0)) X:=by
  funext r;unfold upd;split
  ·rename_i e;subst e;simp[cI,Lay.tQ]
  ·rfl
 rw[e1]at h1;have h2:=Hl.set h1 (r:=.mq) (by simp[upd,view]) ho;refine Hl.congr h2 (λr=>?_) (λ_ _=>rfl);have ra:∀i,N.q? {n with aN:=da cP n.aN nm ⟨[],0,0,[]⟩} i=if i=nm then some ⟨[],0,0,[]⟩else n.q? i:=λi=>yX _ _ _ _ hq
 cases r
 case queue i=>by_cases e:i=nm<;>simp[view,upd,e,ra,Hid.jO,Hid.pG]
 case fw i=>
  by_cases e:i=nm
  ·subst e;simp[view,upd,ra,hq,Hid.jO,Hid.pG,Ag,kU]
  ·simp[view,upd,e,ra]
 case ix i=>
  by_cases e:i=nm
  ·subst e;simp[view,upd,ra,hq,Hid.jO,Hid.pG,CQ,kU]
  ·simp[view,upd,e,ra]
 all_goals simp[view,upd]<;>rfl
def Lay.Cc (A:Lay)(k:Int)(b:Nat):Lay:={A with cons:=λx=>if x=k then b else A.cons x}
end
@[go_sem] def atQ{x:Array Operand}{a:Array TypeId}:cW (.call ⟨.builtin .copy,x,a⟩)=false:=bp
variable {n:Nat}
def aj9{v:Value}(h:tH v=some n){Q:Nat->Hp->Prop}{H:Halt->Hp->Prop}(k:Q n U):wpS P (Builtin.lenOf v) Q H U:=by cases v<;>first|(simp only[tH,Option.some.injEq]at h;subst h;exact k)|cases h
variable {E:Env P}{u:TypeId}{x:Operand}{off:Nat}{e:TypeId}{L:List Value}
def Gi(el:oN P t){dl dc k:Nat}{new:List Value}(hx:ak I x=.slice (some ⟨b,off,none⟩) dl dc)(hn:tH (ak I y)=some k)(iX:jc U el.z (Nat.min k dl) (ak I y)=some new.toArray)(hb:U.f b=some (.cells L.toArray e (0,0)))(hle:off+new.length<=L.length)(kT:new.all dp=true)(h:nx (aB I dst (goInt (Nat.min k dl))) ds (U.set b (.cells (L.take off++new++L.drop (off+new.length)).toArray e (0,0)))):
 aU E ⟨dst,.call ⟨.builtin .copy,#[x,y],#[t,u]⟩,ty,pos,af,g⟩ I ds U nx pn:=by
 have jJ:=el.hu;obtain⟨i,zv,hi,hz,hzero,BC,eQ⟩:=el.hi;show wpOp E _ I ds U nx pn;unfold wpOp;simp only[execOp,resolve,aG,bt,invoke];show wpS P (do pure (Next.value (<-Builtin.copy_ #[t,u] ty (#[x,y].map (ak I)))):Sem Next) _ _ _;rw[lN];have e1: #[x,y].map (ak I)= #[.slice (some ⟨b,off,none⟩) dl dc,ak I y]:=by simp[hx]
 rw[e1];simp only[Builtin.copy_,List.getElem?_toArray,List.getElem?_cons_zero,List.getElem?_cons_succ,aG,eu,jJ];refine aj9 hn ?_;simp only[sizeOf,aG,gl,hi,bt,hz];refine C4 iX ?_;simp only[aG];refine Fu (e:=e) (a:=⟨b,off,none⟩) rfl new 0 L.toArray U _ hb (aW hle) kT ?_
 have e2:(L.toArray.extract 0 (off+0)++new.toArray++L.toArray.extract (off+0+new.length) L.toArray.size:Array Value)=(L.take off++new++L.drop (off+new.length)).toArray:=by apply Array.ext';simp[List.take_of_length_le]
 rw[e2];exact h
def XX(el:oN P t){base:Option Addr}{l:Nat}{k:IntKind}(hu:P.underlying u=some (.int k)){old:Array Value}(hx:ak I x=.slice base l c)(hy:ak I y=.int .i64 n)(LO:0<el.z)(xV:0<n)(hold:jc U el.z l (.slice base l c)=some old)(fZ:(2*(l+n)+192)*el.bytes<=2^48)(mC:0<el.bytes)(agT:l+n<=4611686018427387904)(hc:c<l+n)(eS:∀b cap,U.f b=none->l+n<=cap->nx (aB I dst (.slice (some ⟨b,0,none⟩) (l+n) cap)) ds (U.set b (.cells (old++Builtin.zeroCells el.zero n++Builtin.zeroCells el.zero (cap-(l+n))) el.e))):
 aU E ⟨dst,.call ⟨.builtin .append,#[x,y],#[t,u]⟩,ty,pos,af,g⟩ I ds U nx pn:=by
 have jJ:=el.hu;obtain⟨i,zv,hi,hz,hzero,BC,hb⟩:=el.hi;have w1:IntKind.i64.wrap (n:Int)=n:=wrap64 aa aa
 have wE:(n:Int)*el.bytes<=2^48:=by
  have:n*el.bytes<=(2*(l+n)+192)*el.bytes:=Nat.mul_le_mul_right _ aa;have h2:n*el.bytes<=2^48:=Nat.le_trans this fZ
  exact_mod_cast h2
 have hnz:¬n*el.z=0:=Nat.ne_of_gt (Nat.mul_pos xV LO);show wpOp E _ I ds U nx pn;unfold wpOp;simp only[execOp,resolve,aG,bt,invoke];show wpS P (do pure (Next.value (<-Builtin.append_ #[t,u] ty (#[x,y].map (ak I)))):Sem Next) _ _ _;rw[lN];have e1: #[x,y].map (ak I)= #[.slice base l c,.int .i64 n]:=by simp[hx,hy]
 rw[e1];simp only[Builtin.append_,List.getElem?_toArray,List.getElem?_cons_zero,List.getElem?_cons_succ,aG,eu,jJ,sizeOf,gl,hi,bt,hu];simp only[if_true,aG,asInt,asIntOf,bt,w1];have nn:¬(n:Int)<0:=aa;have n2:¬(n:Int)*(i.bytes:Int)>2^48:=by rw[hb];omega
 simp only[if_neg nn,aG,gl,hi,if_neg n2,bt,Int.toNat_natCast,Bool.not_true,Bool.false_eq_true,if_false,hz,if_neg hnz];rw[if_neg (by omega:¬l+n<=c)];simp only[aG,gl,hi,hb]
 rw[if_neg (by intro⟨h1,_⟩;have:IntKind.i64.max=9223372036854775807:=ai
               omega)]
 have G5:=nextslicecap_le hc;simp only[aG,gl,hi,hb];rw[if_neg (by have:=Nat.mul_le_mul_right el.bytes G5;omega)];simp only[aG,IH];rw[if_neg (by simp[Question.forced])];intro tt;have Bj:l+n<=(Question.appendCap (l+n) c el.e).cut tt:=by simp only[Question.cut];omega
 simp only[gl,hi,askRoom]
 have fin:wpS P (do
  let old<-Builtin.firstCells el.z l (Value.slice base l c)
  let new<-(do pure (Builtin.zeroCells (<-zeroValue el.e).cells n):Sem (Array Value))
  let r<-zeroValue el.e
  let q<-newRow el.e (old++new++Builtin.zeroCells r.cells ((Question.appendCap (l+n) c el.e).cut tt-(l+n)))
  pure (Value.slice (some q) (l+n) ((Question.appendCap (l+n) c el.e).cut tt)))
  (λv U=>pK (λv ae=>nx (aB I dst v) ds ae) (λd ae=>nx (aB I dst undef) (d::ds) ae)
   (λf args ae=>ay E f args ae (yr (λv ae=>nx (aB I dst v) ds ae) pn)) (Next.value v) U)
  (sL λv ae=>pn [{v:=v,recovered:=false}] ae) U:=by
  simp only[aG];refine C4 hold ?_;simp only[zeroValue,aG,gl,hi,hzero,bt,newRow,yH,BC];intro b cE;exact eS b _ cE Bj
 simp only[aG]at fin;split
 ·simp only[NT];exact⟨rfl,fin⟩
 ·simp only[bt];exact fin
variable {op:BinOp}{a b:Option Addr}{m d:Nat}
@[go_sem] def auh:ft P op t (.slice a n c) (.slice b m d)=none:=by unfold ft;cases op<;>cases P.underlying t<;>first|rfl|(rename_i d;cases d<;>rfl)
@[go_sem] def aug:nQ P op t x y (.slice a n c) (.slice b m d)=none:=by unfold nQ;cases op<;>cases P.underlying t<;>first|rfl|(rename_i d;cases d<;>rfl)
@[go_sem] def asA:cK op (.slice a n c) (.slice b m d)=none:=by cases op<;>rfl
def Qx(hu:P.underlying t=some (.slice e))(hx:ak I x=.slice b n c)(hy:ak I y=.slice none 0 0)(h:nx (aB I dst (.bool b.isNone)) ds U):
 wpOp E ⟨dst,.binOp .eql t x y u,ty,pos,af,g⟩ I ds U nx pn:=by
 unfold wpOp;simp only[execOp,hx,hy,aG];refine zd ?_ ⟨al,al⟩;unfold binOp;simp only[aG,bt];refine C2 λk=>?_;unfold Op.equalIn;simp only[aG,eu,hu]
 cases b<;>exact h
def abp(el:oN P t){b:Nat}{z0:Value}(hz:el.zero= #[z0])(Tb:dp z0=true)(hx:ak I x=.slice (some ⟨b,off,none⟩) n c)(hb:U.f b=some (.cells L.toArray e (0,0)))(hle:off+n<=L.length)(h:nx (aB I dst (.tuple #[])) ds (U.set b (.cells (L.take off++List.replicate n z0++L.drop (off+n)).toArray e (0,0)))):
 aU E ⟨dst,.call ⟨.builtin .clear,#[x],#[t]⟩,ty,pos,af,g⟩ I ds U nx pn:=by
 have jJ:=el.hu;obtain⟨i,zv,hi,gQ,hzero,BC,eQ⟩:=el.hi;show wpOp E _ I ds U nx pn;unfold wpOp;simp only[execOp,resolve,aG,bt,invoke];show wpS P (do pure (Next.value (<-Builtin.clear_ #[t] ty (#[x].map (ak I)))):Sem Next) _ _ _;rw[lN];have e1: #[x].map (ak I)= #[.slice (some ⟨b,off,none⟩) n c]:=by simp[hx]
 rw[e1]
 cases n with
 |zero=>
  simp only[Builtin.clear_,List.getElem?_toArray,List.getElem?_cons_zero,aG,eu,jJ,bt];have:L.take off++List.replicate 0 z0++L.drop (off+0)=L:=al;rw[this]at h
  have e0:U.set b (.cells L.toArray e (0,0))=U:=Hp.ext' λy=>by
   by_cases ey:y=b
   ·subst ey;rw[Hp.bD,hb]
   ·rw[Hp.aO _ ey]
  rw[e0]at h;exact h
 |succ n=>
  simp only[Builtin.clear_,List.getElem?_toArray,List.getElem?_cons_zero,aG,eu,jJ,zeroValue,gl,hi,hzero,bt,BC,hz]
  have ez:(Builtin.zeroCells #[z0] (n+1)).toList=List.replicate (n+1) z0:=by rw[FB]
  rw[ez];refine Fu (e:=e) (a:=⟨b,off,none⟩) rfl _ 0 L.toArray U _ hb (aW hle) (by simp[Tb]) ?_
  have e2:(L.toArray.extract 0 (off+0)++(List.replicate (n+1) z0).toArray++L.toArray.extract (off+0+(List.replicate (n+1) z0).length) L.toArray.size:Array Value)=(L.take off++List.replicate (n+1) z0++L.drop (off+(n+1))).toArray:=by apply Array.ext';simp[List.take_of_length_le]
  rw[e2];exact h
def PN(hu:P.underlying t=some (.slice e))(hx:ak I x=.slice b n c)(h:nx (aB I dst (.int .i64 c)) ds U):
 aU E ⟨dst,.call ⟨.builtin .cap,#[x],#[t]⟩,ty,pos,af,g⟩ I ds U nx pn:=by
 show wpOp E _ I ds U nx pn;unfold wpOp;simp only[execOp,resolve,aG,bt,invoke];show wpS P (do pure (Next.value (<-Builtin.cap_ #[t] ty (#[x].map (ak I)))):Sem Next) _ _ _;rw[lN];have e1: #[x].map (ak I)= #[.slice b n c]:=by simp[hx]
 rw[e1];simp only[Builtin.cap_,List.getElem?_toArray,List.getElem?_cons_zero,aG,eu,hu];exact h
variable {lo hi:Option Operand}{K:Value->Prop}
def aoG{z:Nat}(h:iW P t=some z):fH P (.slice t x lo hi none) I U K=xt False z K (lo.map (ak I)) (hi.map (ak I)) (ak I x):=by
 obtain⟨e,he,hs,hz⟩:=C1 h;subst hz;unfold fH cV;simp only[Im he];generalize ak I x=vx;generalize lo.map (ak I)=l;generalize hi.map (ak I)=u
 cases vx<;>try exact gG
 rename_i a n c;simp only[xt,jr]
 cases l with
 |none=>
  simp only[nU,mL]
  cases u with
  |none=>simp only[jS,ju,hs,and_true];exact vT
  |some hh=>simp only[jS,ju];cases hh<;>first|exact gG|(simp only[hs,and_true];exact vT)
 |some ll=>
  cases ll<;>try exact gG
  simp only[nU,mL]
  cases u with
  |none=>simp only[jS,ju,hs,and_true];exact vT
  |some hh=>simp only[jS,ju];cases hh<;>first|exact gG|(simp only[hs,and_true];exact vT)
@[go_sem] def auA(hs:qu P t=false):fH P (.slice t x lo hi none) I U K=qI False (λz=>xt False z K (lo.map (ak I)) (hi.map (ak I)) (ak I x)) (iW P t):=by
 cases h:iW P t with
 |some z=>rw[vU,aoG h]
 |none=>
  rw[Gn]
  have e0:cV P (.slice t x lo hi none) I U=match P.underlying t,ak I x with
   |some .string,.string s=>match nU (lo.map (ak I)),jS s.size (hi.map (ak I))with
    |some l,some h=>if 0<=l/\l<=h/\h<=s.size then some (.string (s.extract l.toNat h.toNat))else none
    |_,_=>none
   |some (.slice e),.slice a n c=>match nU (lo.map (ak I)),jS n (hi.map (ak I))with
    |some l,some h=>if 0<=l/\l<=h/\h<=c/\(P.info? e).isSome=true then
     some (.slice (if c=l.toNat then a else a.map (·.add (l.toNat*cD P e))) (h.toNat-l.toNat) (c-l.toNat))else none
    |_,_=>none
   |_,_=>none:=rfl
  have key:cV P (.slice t x lo hi none) I U=none:=by
   rw[e0];split
   ·rename_i hu _;simp[qu,hu]at hs
   ·rename_i e a n c hu _
    have hi:(P.info? e).isSome=false:=by
     cases hh:P.info? e with
     |none=>rfl
     |some i=>simp[iW,tR,hu,hh]at h
    simp only[hi,Bool.false_eq_true,and_false,if_false];split<;>rfl
   ·rfl
  unfold fH;rw[key];exact gG
end Go.Qw
