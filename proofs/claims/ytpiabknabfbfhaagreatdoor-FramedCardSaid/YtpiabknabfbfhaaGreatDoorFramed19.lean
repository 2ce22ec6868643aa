/- 19 -/
import Derived.Test.YtpiabknabfbfhaaGreatDoorFramed18
set_option linter.all false
set_option maxRecDepth 100000
set_option maxHeartbeats 8000000
namespace Go.Qw
open Go Go.Conc Go.Proofs Go.Proofs.Tryz
variable {E:Env prog}{U:Hp}{cfg:jZ}{g br mc:Nat}{clock last:Int}{l:List (Int×Value×Nat)}
def aam{c:Nat}(hg:U.f g=some (eE cfg br mc clock last))(hm:U.f mc=some (aU aW l c))(hl:l.length≠4)(hu:jI l)(h1: -9223372036854775808<=last+1)(h2:last+1<=9223372036854775807):
 aw E 37 #[pV g] U λe R=>∃b chm,e=.returned (.tuple #[iV (last+1),.nilIface])/\U.f b=none/\U.f chm=none/\b≠chm/\
  R=(((U.set g (eE cfg br mc clock (last+1))).set chm (aU aW [] 0)).set b (fu g (last+1) chm ⟨0,[],false,0,cfg.frame,0,clock,clock,[]⟩)).set mc (aU aW (jk l (last+1) (pV b) c) (jB l (last+1) c)):=by
 refine aX func37 ntmps37 results37 λQ aB al az=>?_;have c4:¬((l.length:Int)=4):=aa;simp only[go_sem,seval,hg,eE];refine GW ur au hm ?_;have w1:IntKind.i64.wrap (last+1)=last+1:=wrap64 h1 h2;simp only[go_sem,seval,c4,hg,eE,w1];have n1:¬mc=g:=bh hm hg (by simp[eE,aU]);refine Al [0,1,2,3,4,5,6,7,8,9,10,11,12,14,15,16,17,18,19,20,21,22,23,24,25,26,13,27,28,29] ?_;refine ag ?_;refineλchm FT=>?_;have fg:(U.set g (eE cfg br mc clock (last+1))).f g=some (eE cfg br mc clock (last+1)):=aT;have n2:¬chm=g:=bh FT aT;have I4:∀o,((U.set g (eE cfg br mc clock (last+1))).set chm o).f g=some (eE cfg br mc clock (last+1)):=λo=>by rw[Hp.ay (Ne.symm n2)];exact fg
 simp only[eE]at I4;refine⟨dL I4,?_⟩;rw[Hp.ay n2]at FT;have n3:¬chm=mc:=bh FT hm;refine ag ?_;refine⟨dL I4,?_⟩;refine ag ?_;refineλb hb=>?_;have k1:¬b=chm:=bh hb aT;rw[Hp.ay k1]at hb;have k2:¬b=g:=bh hb aT;rw[Hp.ay k2]at hb;have k3:¬b=mc:=bh hb hm;have PD:∀o o',(((U.set g (eE cfg br mc clock (last+1))).set chm o).set b o').f g=some (eE cfg br mc clock (last+1)):=λo o'=>by rw[Hp.ay (Ne.symm k2),Hp.ay (Ne.symm n2)];exact fg
 simp only[eE]at PD;refine⟨dL PD,?_⟩;refine ag ?_;have fm:∀o o' bU,(((U.set g o).set chm o').set b bU).f mc=some (aU aW l c):=λo o' bU=>by rw[Hp.ay (Ne.symm k3),Hp.ay (Ne.symm n3),Hp.ay n1];exact hm
 refine Bc (b:=mc) (k:=last+1) ur hu ?_ (fm _ _ _) ?_ ?_
 ·exact au
 ·simp only[go_sem,seval,aW]
 refine fL ?_;have k4:¬g=mc:=λe=>n1 e.symm;have PE:∀o o' bU,((((U.set g (eE cfg br mc clock (last+1))).set chm o).set b o').set mc bU).f g=some (eE cfg br mc clock (last+1)):=λo o' bU=>by rw[Hp.ay k4,Hp.ay (Ne.symm k2),Hp.ay (Ne.symm n2)];exact fg
 simp only[eE]at PE;refine aH PE ?_;refine al iT ao ⟨b,chm,?_,hb,FT,k1,?_⟩
 ·exact au
 ·rfl
variable {P:Program}{main:Bool}{b:Frame}{a:Act}{k:List Item}{cs:List Frame}{w:World}{c:Code}
def aoJ:stepG P main (G (b.at a (.code (.scope c)::k)) cs) w=.go (G (b.at a (.code c:: .inScope c::k)) cs) w:=by simp[G,stepG,stepG.exec,Frame.at]
def aoI:stepG P main (G (b.at a (.inScope c::k)) cs) w=.go (G (b.at a k) cs) w:=by simp[G,stepG,stepG.exec,Frame.at]
variable {E:Env P}{f:FuncId}{fn:Func}{args:Array Value}{atA:Fin->Hp->Prop}
def Zq(hf:P.funcs[f]? =some fn)(hb:fn.body=some (.scope c))(hn:args.size<=fn.ntmps)(h:cO E fn.ntmps c (Ub P fn atA) (nG args fn.ntmps) [] U):aw E f args U atA:=by
 intro cs
 let b:Frame:={(default:Frame)with fn:=f,kind:=.normal}
 have oT:Frame.enter P f args .normal=b.at {tmps:=args++Array.replicate (fn.ntmps-args.size) undef,defers:=[]} [.code (.scope c)]:=by simp[Frame.enter,Frame.at,hf,hb,b]
 rw[oT];refine ax.ctl (λw=>aoJ) rfl rfl ?_;refine(HH c _ _ _ _ h b [.inScope c] cs _ (by simp[b]) (sr args fn.ntmps hn)).bind (Comes.mono ?_ ?_ ?_ ?_)
 ·rintro I ds ae a ha ⟨mP,v,R,hle,hv,hR⟩;refine ax.ctl (λw=>aoI) rfl rfl ?_;refine ax.iD (R:=R) (ax.ctl (λw=>stepG_end) rfl rfl (ax.here ⟨.returned v,_,rfl,rfl,⟨rfl,?_,rfl,fn,hf,?_⟩,hR⟩)) hle
  ·have:=ha.defers;subst mP;exact this
  ·have:=wC (fn:=fn) ha;simp only[Frame.at];rw[this];exact hv
 ·exactλid I ds ae a qM _ hq=>hq.elim
 ·rintro I ds ae a todo ha ⟨mP,v,R,hle,hv,hR⟩;refine ax.iD (R:=R) (ax.here ⟨.returned v,_,rfl,rfl,⟨rfl,?_,rfl,fn,hf,?_⟩,hR⟩) hle
  ·have:=ha.defers;subst mP;exact this
  ·have:=wC (fn:=fn) ha;simp only[Frame.at];rw[this];exact hv
 ·rintro ch I ds ae a todo ha ⟨mP,R,hle,hR⟩;refine ax.iD (R:=R) (ax.here ⟨.panicked ch,_,rfl,rfl,⟨rfl,?_,fn,hf⟩,hR⟩) hle;have:=ha.defers;subst mP;exact this
variable {n:Nat}
def Zp{rs:Array ResultVar}(hf:P.funcs[f]? =some fn)(hn:fn.ntmps=n)(hr:fn.results=rs)(hb:fn.body=some (.scope c))(hs:args.size<=fn.ntmps)(h:∀Q:Post,(∀{I U R v},lG P rs I R v->R.le U->atA (.returned v) R->Q .normal I [] U)->(∀{I U R v},lG P rs I R v->R.le U->atA (.returned v) R->Q .ret I [] U)->(∀ch I U R,R.le U->atA (.panicked ch) R->Q (.panic ch) I [] U)->
  cO E n c Q (nG args n) [] U):aw E f args U atA:=by
 subst hn;subst hr;refine Zq hf hb hs (h _ ?_ ?_ ?_)
 ·exactλ{I U R v} h1 hl h2=>⟨rfl,v,R,hl,h1,h2⟩
 ·exactλ{I U R v} h1 hl h2=>⟨rfl,v,R,hl,h1,h2⟩
 ·exactλch I U R hl h=>⟨rfl,R,hl,h⟩
variable {R:Hp}{v:Value}
def Sl.read{κ:Type}{f:κ->Value}{ety:TypeId}{ys:List κ}(hs:Sl ety R (ys.map f) v):
 ∃base cap,v=.slice base ys.length cap/\∀i (hi:i<ys.length),∃(a:Nat) (L:List Value),base=some ⟨a,0,none⟩/\R.f a=some (.cells L.toArray ety (0,0))/\L[i]? =some (f ys[i]):=by
 generalize hk:ys.map f=ks at hs;have hl:ks.length=ys.length:=by rw[<-hk];simp
 cases hs with
 |nil h0=>exact⟨_,_,by rw[<-hl,h0];rfl,λi hi=>by rw[<-hl,h0]at hi;cases hi⟩
 |«at»a pad ha=>
  refine⟨_,_,by rw[hl],λi hi=>⟨a,_,rfl,ha,?_⟩⟩;rw[List.getElem?_append_left aa,<-hk];simp[hi]
def Idle(U:Hp)(c:Nat)(l:List (Int×Value×Nat)):Prop:=
 ∀e∈l,∃h un co k1 k2 hr,e.2.1=pV h/\U.f h=some (ix c e.1 un co hr)/\U.f un=some (aU aW [] k1)/\U.f co=some (aU bP [] k2)
variable {c:Nat}
def Idle.le(h:Idle U c l)(k:U.le R):Idle R c l:=by intro e he;obtain⟨h,un,co,k1,k2,hr,a,b,d,f⟩:=h e he;exact⟨h,un,co,k1,k2,hr,a,k _ _ b,k _ _ d,k _ _ f⟩
def Fe(U:Hp)(qs:List Nat):Prop:=∀q∈qs,∃name b c held last cons,U.f q=some (fy name (.slice b 0 c) held last cons)
def Fe.le{qs:List Nat}(h:Fe U qs)(k:U.le R):Fe R qs:=by intro q hq;obtain⟨name,b,c,held,last,cons,e⟩:=h q hq;exact⟨name,b,c,held,last,cons,k _ _ e⟩
def oM:oC prog 43 where
 e:=55
 z:=2
 zero:=#[.int .i64 0,.string (B [])]
 bytes:=24
 hu:=ah
 hi:=⟨Tryz.t55,.agg #[.int .i64 0,.string (B [])],ah,ah,ah,rfl,ah⟩
structure Rest (U:Hp) (g:Nat) (cfg:jZ) (br mc mq:Nat) (clock last:Int) (dm messages aY:Int) (lq:List (List UInt8×Value×Nat)) (kq:Nat) (qs:List Nat):Prop where
 hg:U.f g=some (eE cfg br mc clock last)
 hb:U.f br=some (ij mq dm messages aY)
 hm:U.f mq=some (aU bP lq kq)
 hold:∀e∈lq,e.2.2<kq
 hn:(lq.map (·.2.2)).Nodup
 fR:lq.length<=12
 mX:lq.map (·.2.1)=qs.map dX
 bt:Fe U qs
def Rest.le {U R:Hp}{g br mc mq kq:Nat}{cfg:jZ}{clock last dm messages aY:Int}{lq:List (List UInt8×Value×Nat)}{qs:List Nat}(h:Rest U g cfg br mc mq clock last dm messages aY lq kq qs)(k:U.le R):Rest R g cfg br mc mq clock last dm messages aY lq kq qs:=
 ⟨k _ _ h.hg,k _ _ h.hb,k _ _ h.hm,h.hold,h.hn,h.fR,h.mX,h.bt.le k⟩
variable {chm:Nat}{cr:CR}
def Rest.set{mq kq:Nat}{dm messages aY:Int}{lq:List (List UInt8×Value×Nat)}{qs:List Nat}(h:Rest U g cfg br mc mq clock last dm messages aY lq kq qs){gg:Nat}{id:Int}{o:Obj}(hc:U.f c=some (fu gg id chm cr)):
 Rest (U.set c o) g cfg br mc mq clock last dm messages aY lq kq qs:=by
 refine⟨?_,?_,?_,h.hold,h.hn,h.fR,h.mX,?_⟩
 ·rw[Hp.ay];exact h.hg;intro e;have:=h.hg;rw[e,hc]at this;simp[eE,fu]at this
 ·rw[Hp.ay];exact h.hb;intro e;have:=h.hb;rw[e,hc]at this;simp[ij,fu]at this
 ·rw[Hp.ay];exact h.hm;intro e;have:=h.hm;rw[e,hc]at this;simp[aU,fu]at this
 ·intro q hq;obtain⟨name,b,cc,held,last,cons,e⟩:=h.bt q hq;refine⟨name,b,cc,held,last,cons,?_⟩;rw[Hp.ay];exact e;intro e2;rw[e2,hc]at e;simp[fy,fu]at e
def aw.iD {P:Program}{E:Env P}{f:FuncId}{args:Array Value}{U R:Hp}{atA:Fin->Hp->Prop}(h:aw E f args R atA)(k:R.le U):aw E f args U atA:=λcs=>(h cs).iD k
variable {E:Env prog}{k:Nat}{ch:List UInt8}
def abE{id:Int}(hg:U.f g=some (eE cfg br mc clock last))(mV:U.f mc=some (aU aW l k))(gV:dt l id=none):
 aw E 25 #[pV g,iV id,sV ch] U λe R=>e=.returned (.tuple #[.slice none 0 0,.iface 51 (iV 3)])/\R=U:=by
 refine eY func25 ntmps25 results25 rfl ak λQ aB al az=>?_;simp only[eE]at hg;refine aH hg ?_;refine jU (b:=mc) (k:=id) ur (z:=.pointer none) ah ?_ mV ?_ ?_
 ·exact au
 ·simp only[go_sem,seval,aW]
 have dr:((dt l id).map (·.2.1)).getD (.pointer none)=.pointer none:=by rw[gV];rfl
 simp only[go_sem,seval,dr,Bool.false_eq_true];exact al iT ao ⟨by simp[up],rfl⟩
def abD{st:Nat}{id:Int}(hg:U.f g=some (eE cfg br mc clock last))(mV:U.f mc=some (aU aW l k))(gV:dt l id=some (id,pV c,st))(Jq:aw E 39 #[pV g] U λe R=>∃v,e=.returned v/\atA (.returned (.tuple #[v,.nilIface])) R):
 aw E 25 #[pV g,iV id,sV []] U atA:=by
 refine aX func25 ntmps25 results25 λQ aB al az=>?_;simp only[eE]at hg;refine aH hg ?_;refine jU (b:=mc) (k:=id) ur (z:=.pointer none) ah ?_ mV ?_ ?_
 ·exact au
 ·simp only[go_sem,seval,aW]
 have dr:((dt l id).map (·.2.1)).getD (.pointer none)=pV c:=by rw[gV];rfl
 simp only[go_sem,seval,dr,Bool.false_eq_true,decide_true];refine aJ Jq ?_;rintro v R ⟨v',hv,hR⟩
 cases hv
 refine ag ?_;exact al iT ao (by simpa[up]using hR)
def abC{st:Nat}{id:Int}(hg:U.f g=some (eE cfg br mc clock last))(mV:U.f mc=some (aU aW l k))(gV:dt l id=some (id,pV c,st))(hc:U.f c=some (fu g id chm cr))(eF:ch≠[])(Cv:aw E 40 #[pV c,sV ch] (U.set c (fu g id chm {cr with recv:=clock})) λe R=>e=.returned (.tuple #[])/\aw E 39 #[pV g] R λe' bY=>∃v,e'=.returned v/\atA (.returned (.tuple #[v,.nilIface])) bY):
 aw E 25 #[pV g,iV id,sV ch] U atA:=by
 refine aX func25 ntmps25 results25 λQ aB al az=>?_;simp only[eE]at hg;refine aH hg ?_;refine jU (b:=mc) (k:=id) ur (z:=.pointer none) ah ?_ mV ?_ ?_
 ·exact au
 ·simp only[go_sem,seval,aW]
 have dr:((dt l id).map (·.2.1)).getD (.pointer none)=pV c:=by rw[gV];rfl
 have e1:U.set c (fu g id chm {cr with recv:=clock})=U.set c (.cells [pV g,iV id,iV cr.ph,sV cr.rest,.bool cr.je,.map (some chm),iV cr.dm,iV cr.frame,iV cr.gh,iV cr.ib,iV clock,sV cr.out].toArray 90 (0,0)):=rfl;simp only[fu,CR.vals]at hc;simp only[go_sem,seval,dr,Bool.false_eq_true,eF,hg,hc];rw[e1]at Cv;refine aJ Cv ?_;rintro w H0 ⟨hw,Jq⟩
 cases hw
 refine ag ?_;refine aJ Jq ?_;rintro v R ⟨v',hv,hR⟩
 cases hv
 refine ag ?_;exact al iT ao (by simpa[up]using hR)
structure FR where
 u:Un
 s:List UInt8
 cl:Int
 me:Int
def FR.vals(f:FR):List Value:=[iV f.u.kind,iV f.u.channel,sV f.u.gL,.bool f.u.jf,.bool f.u.fB,sV f.s,iV f.cl,iV f.me]
def bN(f:FR):Obj:=.cells f.vals.toArray 293 (0,0)
def FR.kY(f:FR)(cl:Int)(ms:List Int):Bool:=decide (f.u.kind=1)&&(decide (f.cl=cl)&&decide (f.me∈ms))
variable {bm cap:Nat}{ms:List Int}{x:Int}{pad:List Value}
def agL(hb:U.f bm=some (.cells (ms.map iV++pad).toArray 3 (0,0)))(hn:ms.length<=1000):
 aw E 247 #[.slice (some ⟨bm,0,none⟩) ms.length cap,iV x] U λe R=>(∃k:Int,e=.returned (iV k)/\(0<=k↔x∈ms))/\R=U:=by
 refine aX func247 ntmps247 results247 λQ aB al az=>?_;refine ag ?_;refine cZ (λm I ds ae=>ds=[]/\I 0=.slice (some ⟨bm,0,none⟩) ms.length cap/\I 1=iV x/\I 7=iV ms.length/\ae=U/\∃i:Nat,i+m=ms.length/\I 8=iV i/\x∉ms.take i) ms.length ?_ ?_
 ·refine⟨rfl,?_,?_,?_,rfl,0,ak,?_,ak⟩<;>exact au
  try rfl
 ·rintro m I ds ae X ⟨rfl,h0,h1,h7,rfl,i,AP,h8,oa⟩ hX
  cases m with
  |zero=>
   have c0:¬(i:Int)<ms.length:=aa;refine bR h7 h8 c0 ?_;rw[List.take_of_length_le aa]at oa;exact al aG ao ⟨⟨-1,by simp[up],by simp[oa]⟩,rfl⟩
  |succ m=>
   have hi:i<ms.length:=aa;have c0:(i:Int)<ms.length:=aa;have c1:(0:Int)<=i:=aa;have hL:(ms.map iV++pad)[i]? =some (iV ms[i]):=by rw[List.getElem?_append_left (aV hi)];simp[hi]
   have w1:=fM i;by_cases hx:x=ms[i]
   ·simp only[go_sem,seval,h0,h1,h7,h8,c0,c1,hb,hL,hx,decide_true];refine al aG ao ⟨⟨(i:Int),?_,?_⟩,rfl⟩
    ·simp[up]
    ·exact⟨λ_=>by rw[hx];exact List.getElem_mem hi,λ_=>aa⟩
   ·simp only[go_sem,seval,h0,h1,h7,h8,c0,c1,hb,hL,hx,decide_false,w1];refine hX m _ _ _ _ aa ⟨rfl,?_,?_,?_,rfl,i+1,aa,?_,?_⟩ ao
    ·exact aP h0
    ·exact aP h1
    ·exact aP h7
    ·exact au
    ·intro hm;rw[List.take_succ_eq_append_getElem hi,List.mem_append]at hm;rcases hm with h|h
     ·exact oa h
     ·exact hx (aV h)
def aar(hb:U.f bm=some (.cells (ms.map iV++pad).toArray 3 (0,0)))(hn:ms.length<=1000):
 aw E 232 #[.slice (some ⟨bm,0,none⟩) ms.length cap,iV x] U λe R=>e=.returned (.bool (decide (x∈ms)))/\R=U:=by
 refine eY func232 ntmps232 results232 rfl ak λQ aB al az=>?_;refine ag ?_;refine dI acW (agL hb hn) ?_ (λch ae ⟨⟨_,h,_⟩,_⟩=>by cases h);rintro v R ⟨⟨k,hv,hk⟩,rfl⟩
 cases hv
 refine ag ?_;exact al aG ao ⟨by simp[up,hk],rfl⟩
variable {bf:Nat}{f:FR}
def uj{cl:Int}(hf:U.f bf=some (bN f))(hb:U.f bm=some (.cells (ms.map iV++pad).toArray 3 (0,0)))(hn:ms.length<=1000):
 aw E 193 #[pV bf,iV cl,.slice (some ⟨bm,0,none⟩) ms.length cap] U λe R=>e=.returned (.bool (f.kY cl ms))/\R=U:=by
 refine eY func193 ntmps193 results193 rfl ak λQ aB al az=>?_;simp only[bN,FR.vals]at hf;by_cases h1:f.u.kind=1
 ·by_cases h2:f.cl=cl
  ·simp only[go_sem,seval,hf,h1,h2,decide_true];refine bz (aar hb hn) ?_;refine ag ?_;refine al aG ao ⟨?_,rfl⟩;simp[up,FR.kY,h1,h2]
  ·simp only[go_sem,seval,hf,h1,h2,decide_true,decide_false];refine al aG ao ⟨?_,rfl⟩;simp[up,FR.kY,h1,h2]
 ·simp only[go_sem,seval,hf,h1,decide_false];refine al aG ao ⟨?_,rfl⟩;simp[up,FR.kY,h1]
def abB{e:Int}(hf:U.f bf=some (bN f)):
 aw E 189 #[pV bf,iV e] U λe' R=>∃b,e'=.returned (.iface 214 (pV b))/\U.f b=none/\R=U.set b (.cells [iV e,iV f.cl,iV f.me].toArray 217 (0,0)):=by
 refine aX func189 ntmps189 results189 λQ aB al az=>?_;simp only[bN,FR.vals]at hf;refine ag ?_;refine bJ 13 ?_;refine aH hf ?_;refine fL ?_;refine ag ?_;refineλb hb=>⟨by(repeat(first|exact jA|(apply jz;(focus decide+kernel)))),?_⟩;refine ag ?_;refine al aG ao ⟨b,?_,hb,rfl⟩;simp[up]
def La:mA prog 355 aW:=⟨85,3,.int .i64,ah,ah,.inl ⟨_,rfl⟩,Hi _,Hf⟩
section
variable {E:Env prog}{U:Hp}{P:Program}{I:av}{ds:List Deferred}{dst:Option Tmp}{ty:TypeId}{pos:String}{af:Array Edge}{g:Option (Nat×Bool)}{nx:av->List Deferred->Hp->Prop}{pn:List PanicEntry->Hp->Prop}{t:TypeId}{c:Nat}
variable {E:Env P}
variable {α:Type}[DecidableEq α]{f:α->Value}{l:List (α×Value×Nat)}{k:α}
def R7 {m i v:Operand}(ko:mA P t f){b:Nat}{w:Value}{l':List (α×Value×Nat)}{c':Nat}(hu:jI l)(hm:ai I m=.map (some b))(hb:U.f b=some (aU f l c))(hi:ai I i=f k)(hv:ai I v=w)(hl:l'=jk l k w c)(hc:c'=jB l k c)
 (h:∀R,R=U.set b (aU f l' c')->nx (aA I dst undef) ds R):aS E ⟨dst,.insert t m i v,ty,pos,af,g⟩ I ds U nx pn:=by
 subst hv;subst hl;subst hc;exact agQ ko hu hm hb hi (h _ rfl)
end
def ID(ch cl me:Nat)(xs:List Arg):(cg ch cl me xs).length=(bZ xs).length+12:=by simp[cg,qy,bZ,dC,cB];omega
def He{id:Int}{ch cl me:Nat}{xs:List Arg}(hg:U.f g=some (eE cfg br mc clock last))(hc:U.f c=some (fu g id chm cr))(hv:zO U xs v)(fU:∀a∈xs,kP a)(hn:xs.length<=1000)(eF:ch<9223372036854775808)(aK:cl<9223372036854775808)(aN:me<9223372036854775808)(fJ:(bZ xs).length<=10000000)(fK:cr.out.length<=1000000000000000):
 aw E 105 #[pV c,iV ch,iV cl,iV me,v] U λe R=>e=.returned (.tuple #[])/\R=U.set c (fu g id chm {cr with out:=cr.out++cg ch cl me xs,ib:=clock}):=by
 have uB:g≠c:=bh hc hg (by simp[eE,fu]);exact Zx (bc:=c) (bg:=g) (l:=cr.vals g id chm) (lg:=[iV cfg.jc,iV cfg.frame,iV cfg.gh,iV cfg.queue,iV cfg.body,pV br,iV clock,iV last,.map (some mc)]) hc hg rfl rfl rfl rfl uB hv fU hn eF aK aN fJ (by rw[ID];omega)
variable {I:av}{ds:List Deferred}{dst:Option Tmp}{ty:TypeId}{pos:String}{af:Array Edge}{g:Option (Nat×Bool)}{nx:av->List Deferred->Hp->Prop}{pn:List PanicEntry->Hp->Prop}{E:Env P}{t e:TypeId}{x:Operand}
def agM{i:Operand}{b:Nat}{k:IntKind}{j:Int}{ie:TypeInfo}(hu:P.underlying t=some (.array n e))(he:P.info? e=some ie)(hz:ie.size=1)(hx:ai I x=pV b)(hi:ai I i=.int k j)(h0:0<=j)(hn:j<n)(hs:iJ P t=none)(h:nx (aA I dst (.pointer (some ⟨b,j.toNat,none⟩))) ds U):
 qp (aS E ⟨dst,.indexAddr t x i,ty,pos,af,g⟩ I ds U nx pn) (λz=>uq (wpOp E ⟨dst,.indexAddr t x i,ty,pos,af,g⟩ I ds U nx pn) z (λv=>nx (aA I dst v) ds U) (ai I i) (ai I x)) (iJ P t):=by
 rw[hs,FC]
 have fE:tn P t=none:=by unfold tn;rw[hu]
 have e0:aS E ⟨dst,.indexAddr t x i,ty,pos,af,g⟩ I ds U nx pn=wpOp E ⟨dst,.indexAddr t x i,ty,pos,af,g⟩ I ds U nx pn:=by simp only[aS,fE]
 rw[e0];unfold wpOp;simp only[execOp,Instr.indexAt,aF,hi,hx,asIntOf,bl,eg,hu,Instr.sureAddr];rw[if_pos ⟨h0,by exact_mod_cast hn⟩];simp only[aF,sizeOf,fO,he,bl,hz,Nat.mul_one];have e1:(⟨b,0,none⟩:Addr).add j.toNat=⟨b,j.toNat,none⟩:=by rw[Io,Nat.zero_add]
 rw[e1];exact h
def amT{s:List UInt8}(hu:P.underlying t=some .string)(hx:ai I x=.string (B s))(h:∀it,U.f it=none->nx (aA I dst (pV it)) ds (U.set it (.stringIter (B s) 0))):aS E ⟨dst,.range t x,ty,pos,af,g⟩ I ds U nx pn:=by
 show wpOp E _ I ds U nx pn;unfold wpOp;simp only[execOp,Instr.range,aF,eg,hu,hx,bl,xY];exact h
def S8{it pos':Nat}{s:List UInt8}(hx:ai I x=pV it)(hi:U.f it=some (.stringIter (B s) pos'))(h1:pos'<s.length->nx (aA I dst (.tuple #[.bool true,.int .i64 pos',.int .i32 (Utf8.decode (B s) pos').1])) ds (U.set it (.stringIter (B s) (pos'+(Utf8.decode (B s) pos').2))))(h2:¬pos'<s.length->nx (aA I dst (.tuple #[.bool false])) ds U):aS E ⟨dst,.next x true,ty,pos,af,g⟩ I ds U nx pn:=by
 show wpOp E _ I ds U nx pn;unfold wpOp;simp only[execOp,Instr.next,aF,hx,oz];refine⟨_,hi,rfl,?_⟩;by_cases h:pos'<s.length
 ·have h':pos'<(B s).size:=by rw[wG];exact h
  simp only[if_pos h',aF,tv];exact⟨_,hi,rfl,h1 h⟩
 ·have h':¬pos'<(B s).size:=by rw[wG];exact h
  simp only[if_neg h',bl];exact h2 h
variable {E:Env prog}{q:Nat}{name:List UInt8}{b:Option Addr}{held:Int}
def Md{cons:Value}(hq:U.f q=some (fy name (.slice b n cap) held last cons)):aw E 35 #[pV q] U λe R=>e=.returned (iV n)/\R=U:=by refine eY func35 ntmps35 results35 rfl ak λQ aB al az=>?_;simp only[fy]at hq;refine aH hq ?_;exact al aG ao ⟨by simp[up],rfl⟩
def OW{ready:Value}(hq:U.f q=some (fy name ready held last (.slice b n cap))):aw E 36 #[pV q] U λe R=>e=.returned (iV n)/\R=U:=by refine eY func36 ntmps36 results36 rfl ak λQ aB al az=>?_;simp only[fy]at hq;refine aH hq ?_;exact al aG ao ⟨by simp[up],rfl⟩
def ak3{g:Nat}{id:Int}{no:Nat}{s0:List UInt8}(hg:U.f g=some (eE cfg br mc clock last))(hc:U.f c=some (fu g id chm cr))(hm:U.f chm=some (aU aW l k))(hu:jI l)(hf:U.f bf=some (bN f))(eV:f.u.channel=(no:Int))(asl:no<1000000)(afn:(no:Int)<=cr.dm)(hl:dt l (no:Int)=none)(hM:f.kY 20 [10]=true)(ht:jm f.s=some (s0,[]))(fK:cr.out.length<=100000000000000):
 aw E 192 #[pV c,pV bf] U λe R=>e=.returned .nilIface/\∃un co h,U.f un=none/\U.f co=none/\U.f h=none/\un≠co/\h≠un/\h≠co/\
  R=(((((U.set bf (bN {f with s:=[]})).set un (aU aW [] 0)).set co (aU bP [] 0)).set h (ix c no un co ⟨false,0,0,0,[],[],0⟩)).set chm (aU aW (jk l (no:Int) (pV h) k) (jB l (no:Int) k))).set c (fu g id chm {cr with out:=cr.out++cg no 20 11 [.long 0],ib:=clock}):=by
 refine aX func192 ntmps192 results192 λQ aB al az=>?_;have AK:=hf;have cF:=hc;simp only[fu,CR.vals]at cF;simp only[bN,FR.vals,eV]at AK;have c1:¬(no:Int)>cr.dm:=aa;refine ag ?_;refine bJ 10 ?_;refine bR cF AK c1 ?_;refine bJ 11 ?_;refine bq cF AK ?_;refine jU (b:=chm) (k:=(no:Int)) (l:=l) (c:=k) uu (z:=.pointer none) ah ?_ hm ?_ ?_
 ·exact au
 ·exact au
 have dr:((dt l (no:Int)).map (·.2.1)).getD (.pointer none)=.pointer none:=by rw[hl];rfl
 refine⟨iP AK cF,?_⟩;simp only[go_sem,seval,dr,Bool.false_eq_true];refineλbm dK=>?_;have nb:∀{x o},U.f x=some o->¬x=bm:=λh e=>by subst e;rw[h]at dK;cases dK
 have kr:∀o,U.le (U.set bm o):=λo x y h=>by rw[Hp.ay (nb h)];exact h
 refine ag ?_;refine bz (uj (ms:=[10]) (pad:=[]) (kr _ _ _ hf) aT ak) ?_;simp only[go_sem,seval,hM,Bool.not_true];have FY:=kr (.cells #[iV 10] 3 (0,0)) _ _ hf;simp only[bN,FR.vals,eV]at FY;refine B6 sA (tq FY rfl) (λw rest hr=>?_) (λhr=>by rw[ht]at hr;cases hr);rw[ht]at hr;obtain⟨rfl,rfl⟩:s0=w/\[]=rest:=aV hr;refine ag ?_;refine aJ (Pj aT rfl) ?_;rintro v dz ⟨hv,R1⟩
 cases hv
 have ncf:¬c=bf:=bh hc hf (by simp[fu,bN]);have ngf:¬g=bf:=bh hg hf (by simp[eE,bN]);have LF:¬chm=bf:=bh hm hf (by simp[aU,bN]);have uB:¬g=c:=bh hc hg (by simp[eE,fu])
 have tT:(U.set bf (bN {f with s:=[]})).le dz:=by
  rw[R1]
  have e:(Obj.cells (([iV f.u.kind,iV no,sV f.u.gL,.bool f.u.jf,.bool f.u.fB,sV f.s,iV f.cl,iV f.me]:List Value).set 5 (.string (B []))).toArray 293)=bN {f with s:=[]}:=by simp[bN,FR.vals,eV]
  rw[e];exact gG (kr _) _ _
 clear R1;have kU:=tT _ _ ((Hp.ay ncf).trans hc);have kV:=tT _ _ ((Hp.ay ngf).trans hg);have rG:=tT _ _ ((Hp.ay LF).trans hm);have mQ:=tT _ _ aT;have im:=kU;have oU:=kV;simp only[fu,CR.vals]at im;simp only[eE]at oU;simp only[bN,FR.vals,eV]at mQ;refine ag ?_;refine MZ 15 16 [0,1,2,3,4,5,6,7,8,9,10,11,12,13,14,15,16,17,18,19] [0,1,2,3,4,5,6,7,8,9,10,11,12,13,14,16,15,17,18,19] (λ_ _ _=>False) ah kE (λ_ _ _ _ h=>h.elim) ?_ ?_<;>simp only[ig,List.modify_toArray,List.modify_succ_cons,List.modify_zero_cons]
 ·refine bq im mQ ?_;refineλun ir=>?_;have wc:∀{x o},dz.f x=some o->¬x=un:=λh e=>by subst e;rw[ir]at h;cases h
  have DM:∀o,(dz.set un o).f c=_:=λo=>(Hp.ay (wc im)).trans im;have DX:∀o,(dz.set un o).f bf=_:=λo=>(Hp.ay (wc mQ)).trans mQ;refine⟨iP DM DX,?_⟩;refine ag ?_;refineλco qD=>?_;have Be:¬co=un:=bh qD aT;rw[Hp.ay Be]at qD;have v8:∀{x o},dz.f x=some o->¬x=co:=λh e=>by subst e;rw[qD]at h;cases h
  have vU:∀o o',((dz.set un o).set co o').f c=_:=λo o'=>(Hp.ay (v8 im)).trans (DM o);have zo:∀o o',((dz.set un o).set co o').f bf=_:=λo o'=>(Hp.ay (v8 mQ)).trans (DX o);refine⟨iP vU zo,?_⟩;refine ag ?_;refine⟨iP vU zo,?_⟩;refine ag ?_;refineλh hh=>?_;have Eg:¬h=co:=bh hh aT;rw[Hp.ay Eg]at hh;have Ef:¬h=un:=bh hh aT;rw[Hp.ay Ef]at hh;have nh:∀{x o},dz.f x=some o->¬x=h:=λk e=>by subst e;rw[hh]at k;cases k
  have hH:∀o,((dz.set un (aU aW [] 0)).set co (aU bP [] 0)).set h o=((dz.set un (aU aW [] 0)).set co (aU bP [] 0)).set h o:=λo=>rfl;have e1:((dz.set un (.map #[] 0)).set co (.map #[] 0)).set h (ix c no un co ⟨false,0,0,0,[],[],0⟩)=((dz.set un (aU aW [] 0)).set co (aU bP [] 0)).set h (ix c no un co ⟨false,0,0,0,[],[],0⟩):=hH _;have DN:∀o o' bU,(((dz.set un o).set co o').set h bU).f c=_:=λo o' bU=>(Hp.ay (nh im)).trans (vU o o');have DY:∀o o' bU,(((dz.set un o).set co o').set h bU).f bf=_:=λo o' bU=>(Hp.ay (nh mQ)).trans (zo o o');have Lp:∀o o' bU,(((dz.set un o).set co o').set h bU).f chm=some (aU aW l k):=λo o' bU=>(Hp.ay (nh rG)).trans ((Hp.ay (v8 rG)).trans ((Hp.ay (wc rG)).trans rG));have Lo:∀o o' bU,(((dz.set un o).set co o').set h bU).f g=_:=λo o' bU=>(Hp.ay (nh oU)).trans ((Hp.ay (v8 oU)).trans ((Hp.ay (wc oU)).trans oU));refine⟨iP DN DY,?_⟩;refine ag ?_;refine Bc (b:=chm) (k:=(no:Int)) uu hu ?_ (Lp _ _ _) ?_ ?_
  ·exact au
  ·exact au
  refine fL ?_;have LB:¬c=chm:=bh rG kU (by simp[aU,fu]);have LC:¬bf=chm:=λe=>LF e.symm;have LD:¬g=chm:=bh rG kV (by simp[aU,eE]);have Lm:∀o o' bU o3,((((dz.set un o).set co o').set h bU).set chm o3).f bf=_:=λo o' bU o3=>(Hp.ay LC).trans (DY o o' bU);have DO:∀o o' bU o3,((((dz.set un o).set co o').set h bU).set chm o3).f c=_:=λo o' bU o3=>(Hp.ay LB).trans (DN o o' bU);have DZ:∀o o' bU o3,((((dz.set un o).set co o').set h bU).set chm o3).f g=_:=λo o' bU o3=>(Hp.ay LD).trans (Lo o o' bU);refine aH Lm ?_;refineλba gT=>?_;have JS:((((dz.set un (.map #[] 0)).set co (.map #[] 0)).set h (ix c no un co ⟨false,0,0,0,[],[],0⟩)).set chm (aU aW (jk l (no:Int) (pV h) k) (jB l (no:Int) k))).f ba=none:=gT;have vZ:∀{x o},((((dz.set un (.map #[] 0)).set co (.map #[] 0)).set h (ix c no un co ⟨false,0,0,0,[],[],0⟩)).set chm (aU aW (jk l (no:Int) (pV h) k) (jB l (no:Int) k))).f x=some o->¬x=ba:=λk e=>by subst e;rw[JS]at k;cases k
  refine ag ?_;refine bz (He (g:=g) (id:=id) (chm:=chm) (cr:=cr) (ch:=no) (cl:=20) (me:=11) (xs:=[.long 0]) ((Hp.ay (vZ (DZ _ _ _ _))).trans (DZ _ _ _ _)) ((Hp.ay (vZ (DO _ _ _ _))).trans (DO _ _ _ _)) (.inr ⟨ba,rfl,aT⟩) (by simp[kP]) ak aa an an an aa) ?_;refine ag ?_
  have back:∀{x},dz.f x=none->U.f x=none:=by
   intro x hx
   cases hs:U.f x with
   |none=>rfl
   |some o=>
    by_cases e:x=bf
    ·subst e;rw[mQ]at hx;cases hx
    ·rw[tT _ _ ((Hp.ay e).trans hs)]at hx;cases hx
  refine al (R:=((((((U.set bf (bN {f with s:=[]})).set un (aU aW [] 0)).set co (aU bP [] 0)).set h (ix c no un co ⟨false,0,0,0,[],[],0⟩)).set chm (aU aW (jk l (no:Int) (pV h) k) (jB l (no:Int) k))).set c (fu g id chm {cr with out:=cr.out++cg no 20 11 [.long 0],ib:=clock}))) aG ?_ ⟨?_,un,co,h,back ir,back qD,back hh,(λe=>Be e.symm),Ef,Eg,rfl⟩
  ·refine gG ?_ _ _;have k1:(((((U.set bf (bN {f with s:=[]})).set un (aU aW [] 0)).set co (aU bP [] 0)).set h (ix c no un co ⟨false,0,0,0,[],[],0⟩)).set chm (aU aW (jk l (no:Int) (pV h) k) (jB l (no:Int) k))).le ((((dz.set un (aU aW [] 0)).set co (aU bP [] 0)).set h (ix c no un co ⟨false,0,0,0,[],[],0⟩)).set chm (aU aW (jk l (no:Int) (pV h) k) (jB l (no:Int) k))):=gG (gG (gG (gG tT _ _) _ _) _ _) _ _;rw[<-e1]at k1;exact Hp.le_trans k1 (λx o hx=>(Hp.ay (vZ hx)).trans hx)
  ·simp[up]
 ·refine bq im mQ ?_;refineλco qD=>?_;have v8:∀{x o},dz.f x=some o->¬x=co:=λh e=>by subst e;rw[qD]at h;cases h
  have DM:∀o,(dz.set co o).f c=_:=λo=>(Hp.ay (v8 im)).trans im;have DX:∀o,(dz.set co o).f bf=_:=λo=>(Hp.ay (v8 mQ)).trans mQ;refine⟨iP DM DX,?_⟩;refine ag ?_;refineλun ir=>?_;have Be:¬un=co:=bh ir aT;rw[Hp.ay Be]at ir;have wc:∀{x o},dz.f x=some o->¬x=un:=λh e=>by subst e;rw[ir]at h;cases h
  have vU:∀o o',((dz.set co o).set un o').f c=_:=λo o'=>(Hp.ay (wc im)).trans (DM o);have zo:∀o o',((dz.set co o).set un o').f bf=_:=λo o'=>(Hp.ay (wc mQ)).trans (DX o);refine⟨iP vU zo,?_⟩;refine ag ?_;refine⟨iP vU zo,?_⟩;refine ag ?_;refineλh hh=>?_;have Eg:¬h=un:=bh hh aT;rw[Hp.ay Eg]at hh;have Ef:¬h=co:=bh hh aT;rw[Hp.ay Ef]at hh;have nh:∀{x o},dz.f x=some o->¬x=h:=λk e=>by subst e;rw[hh]at k;cases k
  have hH:∀o,((dz.set co (aU bP [] 0)).set un (aU aW [] 0)).set h o=((dz.set un (aU aW [] 0)).set co (aU bP [] 0)).set h o:=λo=>by rw[Hp.set_comm (λe=>Be e.symm)]
  have e1:((dz.set co (.map #[] 0)).set un (.map #[] 0)).set h (ix c no un co ⟨false,0,0,0,[],[],0⟩)=((dz.set un (aU aW [] 0)).set co (aU bP [] 0)).set h (ix c no un co ⟨false,0,0,0,[],[],0⟩):=hH _;have DN:∀o o' bU,(((dz.set co o).set un o').set h bU).f c=_:=λo o' bU=>(Hp.ay (nh im)).trans (vU o o');have DY:∀o o' bU,(((dz.set co o).set un o').set h bU).f bf=_:=λo o' bU=>(Hp.ay (nh mQ)).trans (zo o o');have Lp:∀o o' bU,(((dz.set co o).set un o').set h bU).f chm=some (aU aW l k):=λo o' bU=>(Hp.ay (nh rG)).trans ((Hp.ay (wc rG)).trans ((Hp.ay (v8 rG)).trans rG));have Lo:∀o o' bU,(((dz.set co o).set un o').set h bU).f g=_:=λo o' bU=>(Hp.ay (nh oU)).trans ((Hp.ay (wc oU)).trans ((Hp.ay (v8 oU)).trans oU));refine⟨iP DN DY,?_⟩;refine ag ?_;refine Bc (b:=chm) (k:=(no:Int)) uu hu ?_ (Lp _ _ _) ?_ ?_
  ·exact au
  ·exact au
  refine fL ?_;have LB:¬c=chm:=bh rG kU (by simp[aU,fu]);have LC:¬bf=chm:=λe=>LF e.symm;have LD:¬g=chm:=bh rG kV (by simp[aU,eE]);have Lm:∀o o' bU o3,((((dz.set co o).set un o').set h bU).set chm o3).f bf=_:=λo o' bU o3=>(Hp.ay LC).trans (DY o o' bU);have DO:∀o o' bU o3,((((dz.set co o).set un o').set h bU).set chm o3).f c=_:=λo o' bU o3=>(Hp.ay LB).trans (DN o o' bU);have DZ:∀o o' bU o3,((((dz.set co o).set un o').set h bU).set chm o3).f g=_:=λo o' bU o3=>(Hp.ay LD).trans (Lo o o' bU);refine aH Lm ?_;refineλba gT=>?_;have JS:((((dz.set co (.map #[] 0)).set un (.map #[] 0)).set h (ix c no un co ⟨false,0,0,0,[],[],0⟩)).set chm (aU aW (jk l (no:Int) (pV h) k) (jB l (no:Int) k))).f ba=none:=gT;have vZ:∀{x o},((((dz.set co (.map #[] 0)).set un (.map #[] 0)).set h (ix c no un co ⟨false,0,0,0,[],[],0⟩)).set chm (aU aW (jk l (no:Int) (pV h) k) (jB l (no:Int) k))).f x=some o->¬x=ba:=λk e=>by subst e;rw[JS]at k;cases k
  refine ag ?_;refine bz (He (g:=g) (id:=id) (chm:=chm) (cr:=cr) (ch:=no) (cl:=20) (me:=11) (xs:=[.long 0]) ((Hp.ay (vZ (DZ _ _ _ _))).trans (DZ _ _ _ _)) ((Hp.ay (vZ (DO _ _ _ _))).trans (DO _ _ _ _)) (.inr ⟨ba,rfl,aT⟩) (by simp[kP]) ak aa an an an aa) ?_;refine ag ?_
  have back:∀{x},dz.f x=none->U.f x=none:=by
   intro x hx
   cases hs:U.f x with
   |none=>rfl
   |some o=>
    by_cases e:x=bf
    ·subst e;rw[mQ]at hx;cases hx
    ·rw[tT _ _ ((Hp.ay e).trans hs)]at hx;cases hx
  refine al (R:=((((((U.set bf (bN {f with s:=[]})).set un (aU aW [] 0)).set co (aU bP [] 0)).set h (ix c no un co ⟨false,0,0,0,[],[],0⟩)).set chm (aU aW (jk l (no:Int) (pV h) k) (jB l (no:Int) k))).set c (fu g id chm {cr with out:=cr.out++cg no 20 11 [.long 0],ib:=clock}))) aG ?_ ⟨?_,un,co,h,back ir,back qD,back hh,(λe=>Be e),Eg,Ef,rfl⟩
  ·refine gG ?_ _ _;have k1:(((((U.set bf (bN {f with s:=[]})).set un (aU aW [] 0)).set co (aU bP [] 0)).set h (ix c no un co ⟨false,0,0,0,[],[],0⟩)).set chm (aU aW (jk l (no:Int) (pV h) k) (jB l (no:Int) k))).le ((((dz.set un (aU aW [] 0)).set co (aU bP [] 0)).set h (ix c no un co ⟨false,0,0,0,[],[],0⟩)).set chm (aU aW (jk l (no:Int) (pV h) k) (jB l (no:Int) k))):=gG (gG (gG (gG tT _ _) _ _) _ _) _ _;rw[<-e1]at k1;exact Hp.le_trans k1 (λx o hx=>(Hp.ay (vZ hx)).trans hx)
  ·simp[up]
def gl(f:FuncId)(caps:Array Value):Deferred:={target:=.fn (.func f) caps,args:=#[]}
variable {fr:Frame}{df:FuncId}{caps:Array Value}
def aoU(hm:fr.mode=.returning)(hd:fr.defers=gl df caps::ds)(hg:cq P df=true):
 gQ P main (G fr cs) U λg ae=>ae=U/\g=G (Frame.enter P df caps .deferred) ({fr with defers:=ds}::cs):=by
 intro J w cS
 have h:wpS P (invoke (gl df caps).target (gl df caps).args) (λn ae=>n=.enter df caps/\ae=U) (λ_ _=>False) U:=by simp only[gl,invoke];refine HI hg ?_;simp
 obtain⟨w',ae,bW,e1,iy,dZ,fT,hr⟩:=oA _ w U #[] h cS;rcases hr with⟨nx,hn,rfl,rfl⟩|⟨hh,hn,hq⟩
 ·have gm:((invoke (gl df caps).target (gl df caps).args).runT P w #[]).2=bW:=by simpa using e1
  have e2:(invoke (gl df caps).target (gl df caps).args).runT P w #[]=(_,bW):=Prod.ext hn gm;have iz:∀fn,∀e∈seen P fn bW,iv J w'.heap.size e:=λfn e he=>fT e (mem_seen he);have kX:((gl df caps).target matches .nil)=false:=rfl
  have step:stepG P main (G fr cs) w=callDeferred P {fr with defers:=ds} cs none (gl df caps) w:=by simp only[G,stepG,hm,unwind,hd];rfl
  rw[step];unfold callDeferred;simp only[kX];generalize invoke (gl df caps).target (gl df caps).args=s at e2|-;simp only[e2,GStep.after];exact⟨_,iy,dZ,λe he=>iz _ e (aV he),rfl,rfl,rfl⟩
 ·exact hq.elim
variable {b:Frame}{k:List Item}{cz:Array TypeId}{c:Frame}
def aoS{ops:Array Oper}{i:Nat}{rest:List Nat}{gd:Option (Nat×Bool)}(ho:ops[i]? =some ⟨dst,.call ⟨.builtin .recover,#[],cz⟩,ty,pos,af,gd⟩)(hw:Region.wanted ⟨dst,.call ⟨.builtin .recover,#[],cz⟩,ty,pos,af,gd⟩ (yielded ops a.tmps)=true)(hb:b.kind=.deferred)(hc:c.mode=.returning):
 gQ P main (G (b.at a (.inRegion ops (i::rest)::k)) (c::cs)) U λg ae=>ae=U/\g=G (b.at (a.put dst .nilIface) (.inRegion ops rest::k)) (c::cs):=by
 intro J w hs
 have h:wpS P (execOp a.eval ⟨dst,.call ⟨.builtin .recover,#[],cz⟩,ty,pos,af,gd⟩) (λn ae=>n=.recover/\ae=U) (λ_ _=>False) U:=by simp only[execOp,resolve,aF,bl,invoke];exact⟨rfl,rfl⟩
 obtain⟨w',ae,bW,e1,cS,dZ,fT,hr⟩:=oA _ w U #[] h hs;have gm:((execOp a.eval ⟨dst,.call ⟨.builtin .recover,#[],cz⟩,ty,pos,af,gd⟩).runT P w #[]).2=bW:=by simpa using e1
 rw[stepG_oper ho hw];have iz:∀fn,∀e∈seen P fn bW,iv J w'.heap.size e:=λfn e he=>fT e (mem_seen he);have fe:(b.at a (.inRegion ops (i::rest)::k)).finish .nilIface=b.at (a.put dst .nilIface) (.inRegion ops rest::k):=by rw[Frame.finish_at,ho];rfl
 have KJ:tryRecover (b.at a (.inRegion ops (i::rest)::k)) (c::cs)=none:=by unfold tryRecover;simp only[Frame.at,hb,hc]
 rcases hr with⟨nx,hn,hq,rfl⟩|⟨hh,hn,hq⟩
 ·subst hq;have e2:(execOp a.eval ⟨dst,.call ⟨.builtin .recover,#[],cz⟩,ty,pos,af,gd⟩).runT P w #[]=(_,bW):=Prod.ext hn gm;generalize execOp a.eval _=s at e2|-;unfold stepG.apply;have KB:(b.at a (.inRegion ops (i::rest)::k)).roundOf=none:=rfl;simp only[if_true,e2,KB,KJ,GStep.after,fe];refine⟨_,cS,dZ,λe he=>?_,rfl,rfl,rfl⟩;split at he
  ·simp[seen]at he
  ·simp only[Array.append_empty]at he;exact iz _ e he
 ·exact hq.elim
def aoN(hm:fr.mode=.returning)(hd:fr.defers=[])(hk:fr.kind=.deferred)(hc:c.mode=.returning)(hf:P.funcs[fr.fn]? =some fn)(hr:fn.results= #[]):
 gQ P main (G fr (c::cs)) U λg ae=>ae=U/\g=G c cs:=by
 intro J w hs
 have fC:∀tmps,wpS P (results fn tmps) (λv' ae=>v'=.tuple #[]/\ae=U) (λ_ _=>False) U:=by intro tmps;simp[results,hr,bl]
 obtain⟨w',ae,bW,e1,cS,dZ,fT,Dx⟩:=oA (results fn fr.tmps) w U #[] (fC _) hs;rcases Dx with⟨v',hn,rfl,rfl⟩|⟨_,_,hq⟩
 ·have gm:((results fn fr.tmps).runT P w #[]).2=bW:=by simpa using e1
  have e2:(results fn fr.tmps).runT P w #[]=(.ok (.tuple #[]) w',bW):=Prod.ext hn gm
  have:stepG P main (G fr (c::cs)) w=.go (G c cs) w' (seen P fr.fn bW):=by simp[G,stepG,hm,unwind,hd,hf,-Sem.runT_eq,e2,doReturn,hk,GStep.after,hc]
  rw[this];exact⟨_,cS,dZ,λe he=>fT e (mem_seen he),rfl,rfl,rfl⟩
 ·exact hq.elim
noncomputable def tz:Code:=f188.body.getD .skip
noncomputable def Eo:Array Oper:=bK (bM tz)
noncomputable def KS:Code:=dO (aO tz)
def Nd:tz=.seq (.region 0 Eo false) (.block 0 KS):=ah
def Ad:Frame:={(default:Frame)with fn:=188,kind:=.deferred}
def TQ:∃ps af,Eo[0]? =some {dst:=some 5,op:=.call ⟨.builtin .recover,#[],#[]⟩,type:=20,pos:=ps,after:=af,guard:=none}:=⟨_,_,by simp only[Eo,tz,f188,Option.getD_some,bM,bK];rfl⟩
def aaO{b3 b4:Nat}(hc:c.mode=.returning):
 ax E (G (Frame.enter prog 188 #[pV b3,pV b4] .deferred) (c::cs)) U λg R=>g=G c cs/\R=U:=by
 have oT:Frame.enter prog 188 #[pV b3,pV b4] .deferred=Ad.at {tmps:=#[pV b3,pV b4]++Array.replicate 11 undef,defers:=[]} [.code tz]:=by simp[Frame.enter,Frame.at,func188,Ad,f188,tz]
 rw[oT,Nd];have ha:=sr #[pV b3,pV b4] 13 ak;refine ax.ctl (λw=>stepG_seq) rfl rfl ?_;refine ax.ctl (λw=>stepG_region) rfl rfl ?_;have hr:List.range Eo.size=[0]:=ah;rw[hr];obtain⟨ps,af,ho⟩:=TQ;refine ax.step rfl (aoS ho rfl rfl hc) ?_;rintro g R ⟨rfl,rfl⟩;have de:cM 13 _ _ []:=ha.put (dst:=some 5) an .nilIface;refine ax.ctl (λw=>stepG_region_end) rfl rfl ?_;refine(nB (E:=E) (N:=13) (X:=λI ds bY=>ds=[]/\bY=R) ?_ (by simp[Ad]) de).bind ?_
 ·simp only[KS,tz,f188,Option.getD_some,aO,dO];simp only[go_sem,seval,aA,up];exact⟨rfl,rfl⟩
 rintro g bY ⟨lW,_,a2,gp,⟨rfl,rfl⟩,rfl⟩;refine ax.ctl (λw=>stepG_end) rfl rfl ?_;refine ax.step rfl (aoN (fn:=f188) rfl gp.defers rfl hc func188 ah) ?_;rintro g nL ⟨rfl,rfl⟩;exact ax.here ⟨rfl,rfl⟩
variable {E:Env P}
def aaN{t:Operand}(ht:ai I t=.func (.func df) #[] caps)(h:nx (aA I dst undef) (gl df caps::ds) U):aS E ⟨dst,.defer ⟨.value t,#[],cz⟩,ty,pos,af,g⟩ I ds U nx pn:=by show wpOp E _ I ds U nx pn;unfold wpOp;simp only[execOp,resolve,Deferred.ofValue,ht,aF,bl];have e1:(#[]++Array.map (ai I) #[]:Array Value)= #[]:=ak;rw[e1];exact h
def A9{b:Nat}(h:R.f b=some (.cells #[v] e (0,0))):iQ prog 45 ⟨b,0,none⟩ R=some v:=by unfold iQ;rw[if_neg (by rw[VY];simp)];simp[Hp.cell?,h]
variable {E:Env prog}{c:Nat}{u:Un}
def apU{atA:Hp->Prop}(hg:u.jf=false)(hw:u.fB=false)(hk:u.kind≠8)(Cs:aw E 107 #[pV c,uV u] U λe R=>e=.returned (.tuple #[])/\atA R):
 aw E 59 #[pV c,uV u] U λe R=>e=.returned (.tuple #[])/\atA R:=by
 refine aX func59 ntmps59 results59 λQ aB al az=>?_;simp only[uV]at Cs;simp only[go_sem,seval,uV];refineλb3 gS=>?_;have hle:∀o,U.le (U.set b3 o):=λo x p h=>by rw[Hp.ay (bh h gS)];exact h
 have c8:¬u.kind=8:=hk;refine bR hg hw c8 ?_;rw[hg,hw]at Cs;refine aJ (Cs.iD (hle _)) ?_;rintro v R ⟨hv,hR⟩
 cases hv
 refine ag ?_;exact aB dB ao ⟨rfl,hR⟩
def apT(hg:u.jf=false)(hw:u.fB=false)(hk:u.kind=8):
 aw E 59 #[pV c,uV u] U λe R=>e=.returned (.tuple #[])/\R=U:=by
 refine eY func59 ntmps59 results59 rfl ak λQ aB al az=>?_;simp only[go_sem,seval,uV];refineλb3 gS=>?_;have hle:∀o,U.le (U.set b3 o):=λo x p h=>by rw[Hp.ay (bh h gS)];exact h
 simp only[go_sem,seval,hg,hw,hk,decide_true];exact aB (R:=U) dB (hle _) ⟨rfl,rfl⟩
def apV{g k1 k2 k3:Nat}{id:Int}(pR:u.jf=true)(hw:u.fB=false)(hg:U.f g=some (eE cfg br mc clock last))(hc:U.f c=some (fu g id chm cr))(e1:cfg.jc=k1)(e2:cfg.frame=k2)(e3:cfg.gh=k3)(l1:k1<100000)(l2:k2<100000)(l3:k3<100000)(fK:cr.out.length<=100000000000000):
 aw E 59 #[pV c,uV u] U λe R=>e=.returned (.tuple #[])/\R=U.set c (fu g id chm {cr with ph:=1,out:=cr.out++cg 0 10 30 [.short k1,.long k2,.short k3],ib:=clock}):=by
 refine eY func59 ntmps59 results59 rfl ak λQ aB al az=>?_;have uB:¬g=c:=bh hc hg (by simp[eE,fu]);have cF:=hc;have ff:=hg;simp only[fu,CR.vals]at cF;simp only[eE,e1,e2,e3]at ff;simp only[go_sem,seval,uV];refineλb3 gS=>?_;have nb:∀{x o},U.f x=some o->¬x=b3:=λh e=>by subst e;rw[gS]at h;cases h
 have lc:∀o,(U.set b3 o).f c=_:=λo=>(Hp.ay (nb cF)).trans cF;have lg:∀o,(U.set b3 o).f g=_:=λo=>(Hp.ay (nb ff)).trans ff;have vU:∀(H:Hp) (o:Obj),(H.set c o).f c=some o:=λ_ _=>Hp.bD _ _;have Ln:∀o o',((U.set b3 o).set c o').f g=_:=λo o'=>(Hp.ay uB).trans (lg o);refine bR pR hw lc ?_;refine bJ 30 ?_;refine bq vU Ln ?_;refineλba gT=>?_;have G0:¬c=ba:=bh gT aT;have nga:¬g=ba:=λe=>by subst e;rw[Ln]at gT;cases gT
 have Sp:∀(H:Hp) (o o':Obj),((H.set c o).set ba o').f c=some o:=λ_ _ _=>(Hp.ay G0).trans aT;have Sw:∀o o' bU,(((U.set b3 o).set c o').set ba bU).f g=_:=λo o' bU=>(Hp.ay nga).trans (Ln o o');refine⟨iP Sp Sw,?_⟩;refine ag ?_;refine bz (He (g:=g) (id:=id) (chm:=chm) (cr:={cr with ph:=1}) (ch:=0) (cl:=10) (me:=30) (xs:=[.short k1,.long k2,.short k3]) (cfg:=cfg) (br:=br) (mc:=mc) (clock:=clock) (last:=last) ?_ (Sp _ _ _) (.inr ⟨ba,rfl,aT⟩) ?_ ak an an an ?_ (by show cr.out.length<=_;omega)) ?_
 ·rw[Sw];simp[eE,e1,e2,e3]
 ·simp[kP];omega
 ·simp[bZ,dC,cB]
 refine fL ?_;refine ag ?_;refine aB (R:=(U.set c (fu g id chm {cr with ph:=1,out:=cr.out++cg 0 10 30 [.short k1,.long k2,.short k3],ib:=clock}))) dB ?_ ⟨rfl,rfl⟩;intro x o hx;by_cases e:x=c
 ·subst e;rw[Hp.bD]at hx|-;exact hx
 ·rw[Hp.ay e]at hx;have h5:∀o,(U.set b3 o).f x=_:=λo=>(Hp.ay (nb hx)).trans hx;have:x≠ba:=λe'=>by subst e';rw[Hp.ay e,h5]at gT;cases gT
  rw[Hp.ay e,Hp.ay this,Hp.ay e];exact h5 _
def ajH(c1:¬cfg.jc<1)(c2:¬cfg.jc>8)(c3:¬cfg.frame<64)(c4:¬cfg.frame>4096)(c5:¬cfg.gh<0)(c6:¬cfg.gh>50)(c7:¬cfg.queue<1)(c8:¬cfg.queue>50)(c9:¬cfg.body<0)(Y0:¬cfg.body>10000):
 aw E 32 #[.agg cfg.vals.toArray] U λe R=>∃g br mq mc,e=.returned (.tuple #[pV g,.nilIface])/\U.f g=none/\U.f br=none/\U.f mq=none/\U.f mc=none/\br≠mq/\mc≠mq/\mc≠br/\g≠mq/\g≠br/\g≠mc/\
  R=(((U.set mq (aU bP [] 0)).set br (ij mq cfg.queue 0 0)).set mc (aU aW [] 0)).set g (eE cfg br mc 0 0):=by
 refine aX func32 ntmps32 results32 λQ aB al az=>?_;simp only[go_sem,seval,jZ.vals];refineλb1 iN=>?_;have lb:∀(H:Hp) (o:Obj),(H.set b1 o).f b1=some o:=λ_ _=>Hp.bD _ _;simp only[go_sem,seval,lb,c1,c2,c3,c4,c5,c6,c7,c8,c9,Y0];refine MZ 3 4 [0,1,2,3,4,5,6,7,8] [0,1,2,4,3,5,6,7,8] (λ_ _ _=>False) ah kE (λ_ _ _ _ h=>h.elim) ?_ ?_<;>simp only[ig,List.modify_toArray,List.modify_succ_cons,List.modify_zero_cons]
 ·refine aH lb ?_;refine aJ S7 ?_;rintro v R ⟨br,mq,hv,vE,Lz,qC,rfl⟩
  cases hv
  have SU:¬b1=mq:=bh vE aT;have SR:¬b1=br:=bh qC aT;rw[Hp.ay (λe=>SU e.symm)]at vE;rw[Hp.ay (λe=>SR e.symm)]at qC;have l1:∀o o' bU,(((U.set b1 o).set mq o').set br bU).f b1=some o:=λo o' bU=>(Hp.ay SR).trans ((Hp.ay SU).trans aT);refine⟨dL l1,?_⟩;refine ag ?_;refineλmc mV=>?_;have S5:¬mc=br:=bh mV aT;rw[Hp.ay S5]at mV;have Eb:¬mc=mq:=bh mV aT;rw[Hp.ay Eb]at mV;have Ea:¬mc=b1:=bh mV aT;rw[Hp.ay Ea]at mV;have l2:∀o o' bU o3,((((U.set b1 o).set mq o').set br bU).set mc o3).f b1=some o:=λo o' bU o3=>(Hp.ay (λe=>Ea e.symm)).trans (l1 o o' bU);refine⟨dL l2,?_⟩;refine ag ?_;refine⟨dL l2,?_⟩;refine ag ?_;refineλg hg=>?_;have uB:¬g=mc:=bh hg aT;rw[Hp.ay uB]at hg;have Ed:¬g=br:=bh hg aT;rw[Hp.ay Ed]at hg;have Ee:¬g=mq:=bh hg aT;rw[Hp.ay Ee]at hg;have Ec:¬g=b1:=bh hg aT;rw[Hp.ay Ec]at hg;have l3:∀o o' bU o3 o4,(((((U.set b1 o).set mq o').set br bU).set mc o3).set g o4).f b1=some o:=λo o' bU o3 o4=>(Hp.ay (λe=>Ec e.symm)).trans (l2 o o' bU o3);refine⟨dL l3,?_⟩;refine ag ?_;refine al (R:=((((U.set mq (aU bP [] 0)).set br (ij mq cfg.queue 0 0)).set mc (aU aW [] 0)).set g (eE cfg br mc 0 0))) iT ?_ ⟨g,br,mq,mc,?_,hg,qC,vE,mV,Lz,Eb,S5,Ee,Ed,uB,rfl⟩
  ·exact gG (gG (gG (gG (λx p h=>by rw[Hp.ay (bh h iN)];exact h) _ _) _ _) _ _) _ _
  ·simp[up]
 ·refine aH lb ?_;refineλmc mV=>?_;have Ea:¬mc=b1:=bh mV aT;rw[Hp.ay Ea]at mV;have l0:∀o o',((U.set b1 o).set mc o').f b1=some o:=λo o'=>(Hp.ay (λe=>Ea e.symm)).trans aT;refine⟨dL l0,?_⟩;refine ag ?_;refine aJ S7 ?_;rintro v R ⟨br,mq,hv,vE,Lz,qC,rfl⟩
  cases hv
  have LP:¬mq=mc:=bh vE aT;rw[Hp.ay LP]at vE;have Te:¬mq=b1:=bh vE aT;rw[Hp.ay Te]at vE;have D9:¬br=mc:=bh qC aT;rw[Hp.ay D9]at qC;have S3:¬br=b1:=bh qC aT;rw[Hp.ay S3]at qC;have l1:∀o o' bU o3,((((U.set b1 o).set mc o').set mq bU).set br o3).f b1=some o:=λo o' bU o3=>(Hp.ay (λe=>S3 e.symm)).trans ((Hp.ay (λe=>Te e.symm)).trans (l0 o o'));refine⟨dL l1,?_⟩;refine ag ?_;refine⟨dL l1,?_⟩;refine ag ?_;refineλg hg=>?_;have Ed:¬g=br:=bh hg aT;rw[Hp.ay Ed]at hg;have Ee:¬g=mq:=bh hg aT;rw[Hp.ay Ee]at hg;have uB:¬g=mc:=bh hg aT;rw[Hp.ay uB]at hg;have Ec:¬g=b1:=bh hg aT;rw[Hp.ay Ec]at hg;have l3:∀o o' bU o3 o4,(((((U.set b1 o).set mc o').set mq bU).set br o3).set g o4).f b1=some o:=λo o' bU o3 o4=>(Hp.ay (λe=>Ec e.symm)).trans (l1 o o' bU o3);refine⟨dL l3,?_⟩;refine ag ?_
  have J0:∀(H:Hp) (o o' bU:Obj),(((H.set mc o).set mq o').set br bU)=(((H.set mq o').set br bU).set mc o):=by intro H o o' bU;rw[Hp.set_comm (a:=mc) (b:=mq) (λe=>LP e.symm),Hp.set_comm (a:=mc) (b:=br) (λe=>D9 e.symm)]
  refine al (R:=((((U.set mq (aU bP [] 0)).set br (ij mq cfg.queue 0 0)).set mc (aU aW [] 0)).set g (eE cfg br mc 0 0))) iT ?_ ⟨g,br,mq,mc,?_,hg,qC,vE,mV,Lz,(λe=>LP e.symm),(λe=>D9 e.symm),Ee,Ed,uB,rfl⟩
  ·rw[J0];exact gG (gG (gG (gG (λx p h=>by rw[Hp.ay (bh h iN)];exact h) _ _) _ _) _ _) _ _
  ·simp[up]
end Go.Qw
