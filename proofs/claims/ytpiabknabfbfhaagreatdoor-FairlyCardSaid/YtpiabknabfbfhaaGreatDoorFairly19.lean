/- Part 19. -/
import Derived.Test.YtpiabknabfbfhaaGreatDoorFairly18
set_option linter.all false
set_option maxRecDepth 100000
set_option maxHeartbeats 8000000
namespace Go.Qw
open Go Go.Conc Go.Proofs Go.Proofs.Tryz
variable {E:Env prog}{σ:Hp}{cfg:jA}{g br mc:Nat}{clock last:Int}{l:List (Int×Value×Nat)}
def ZY{c:Nat}(hg:σ.f g=some (eE cfg br mc clock last))(hm:σ.f mc=some (aU aV l c))(hl:l.length≠4)(hu:jD l)(h1: -9223372036854775808<=last+1)(h2:last+1<=9223372036854775807):
 ay E 37 #[pV g] σ λe τ=>∃b chm,e=.returned (.tuple #[iV (last+1),.nilIface])/\σ.f b=none/\σ.f chm=none/\b≠chm/\
  τ=(((σ.set g (eE cfg br mc clock (last+1))).set chm (aU aV [] 0)).set b (fi g (last+1) chm ⟨0,[],false,0,cfg.frame,0,clock,clock,[]⟩)).set mc (aU aV (ji l (last+1) (pV b) c) (ju l (last+1) c)):=by
 refine aW func37 ntmps37 results37 λQ aC an aA=>?_;have c4:¬((l.length:Int)=4):=aa;simp only[go_sem,seval,hg,eE];refine GS ud au hm ?_;have w1:IntKind.i64.wrap (last+1)=last+1:=wrap64 h1 h2;simp only[go_sem,seval,c4,hg,eE,w1];have n1:¬mc=g:=bp hm hg (by simp[eE,aU]);refine Al [0,1,2,3,4,5,6,7,8,9,10,11,12,14,15,16,17,18,19,20,21,22,23,24,25,26,13,27,28,29] ?_;refine ag ?_;refineλchm FP=>?_;have fg:(σ.set g (eE cfg br mc clock (last+1))).f g=some (eE cfg br mc clock (last+1)):=aY;have n2:¬chm=g:=bp FP aY;have IU:∀o,((σ.set g (eE cfg br mc clock (last+1))).set chm o).f g=some (eE cfg br mc clock (last+1)):=λo=>by rw[Hp.az (Ne.symm n2)];exact fg
 simp only[eE]at IU;refine⟨dG IU,?_⟩;rw[Hp.az n2]at FP;have n3:¬chm=mc:=bp FP hm;refine ag ?_;refine⟨dG IU,?_⟩;refine ag ?_;refineλb hb=>?_;have k1:¬b=chm:=bp hb aY;rw[Hp.az k1]at hb;have k2:¬b=g:=bp hb aY;rw[Hp.az k2]at hb;have k3:¬b=mc:=bp hb hm;have Px:∀o o',(((σ.set g (eE cfg br mc clock (last+1))).set chm o).set b o').f g=some (eE cfg br mc clock (last+1)):=λo o'=>by rw[Hp.az (Ne.symm k2),Hp.az (Ne.symm n2)];exact fg
 simp only[eE]at Px;refine⟨dG Px,?_⟩;refine ag ?_;have fm:∀o o' bU,(((σ.set g o).set chm o').set b bU).f mc=some (aU aV l c):=λo o' bU=>by rw[Hp.az (Ne.symm k3),Hp.az (Ne.symm n3),Hp.az n1];exact hm
 refine Ba (b:=mc) (k:=last+1) ud hu ?_ (fm _ _ _) ?_ ?_
 ·exact au
 ·simp only[go_sem,seval,aV]
 refine fO ?_;have k4:¬g=mc:=λe=>n1 e.symm;have Py:∀o o' bU,((((σ.set g (eE cfg br mc clock (last+1))).set chm o).set b o').set mc bU).f g=some (eE cfg br mc clock (last+1)):=λo o' bU=>by rw[Hp.az k4,Hp.az (Ne.symm k2),Hp.az (Ne.symm n2)];exact fg
 simp only[eE]at Py;refine aG Py ?_;refine an iT ao ⟨b,chm,?_,hb,FP,k1,?_⟩
 ·exact au
 ·rfl
variable {P:Program}{main:Bool}{b:Frame}{a:Act}{k:List Item}{cs:List Frame}{w:World}{c:Code}
def aou:stepG P main (G (b.at a (.code (.scope c)::k)) cs) w=.go (G (b.at a (.code c:: .inScope c::k)) cs) w:=by simp[G,stepG,stepG.exec,Frame.at]
def aot:stepG P main (G (b.at a (.inScope c::k)) cs) w=.go (G (b.at a k) cs) w:=by simp[G,stepG,stepG.exec,Frame.at]
variable {E:Env P}{f:FuncId}{fn:Func}{args:Array Value}{R:Fin->Hp->Prop}
def YZ(hf:P.funcs[f]? =some fn)(hb:fn.body=some (.scope c))(hn:args.size<=fn.ntmps)(h:cK E fn.ntmps c (T6 P fn R) (nB args fn.ntmps) [] σ):ay E f args σ R:=by
 intro cs
 let b:Frame:={(default:Frame)with fn:=f,kind:=.normal}
 have oK:Frame.enter P f args .normal=b.at {tmps:=args++Array.replicate (fn.ntmps-args.size) undef,defers:=[]} [.code (.scope c)]:=by simp[Frame.enter,Frame.at,hf,hb,b]
 rw[oK];refine ax.ctl (λw=>aou) rfl rfl ?_;refine(HF c _ _ _ _ h b [.inScope c] cs _ (by simp[b]) (rV args fn.ntmps hn)).bind (Comes.mono ?_ ?_ ?_ ?_)
 ·rintro ρ ds ae a ha ⟨mJ,v,τ,hle,hv,hR⟩;refine ax.ctl (λw=>aot) rfl rfl ?_;refine ax.ik (τ:=τ) (ax.ctl (λw=>stepG_end) rfl rfl (ax.here ⟨.returned v,_,rfl,rfl,⟨rfl,?_,rfl,fn,hf,?_⟩,hR⟩)) hle
  ·have:=ha.defers;subst mJ;exact this
  ·have:=wv (fn:=fn) ha;simp only[Frame.at];rw[this];exact hv
 ·exactλid ρ ds ae a qI _ hq=>hq.elim
 ·rintro ρ ds ae a todo ha ⟨mJ,v,τ,hle,hv,hR⟩;refine ax.ik (τ:=τ) (ax.here ⟨.returned v,_,rfl,rfl,⟨rfl,?_,rfl,fn,hf,?_⟩,hR⟩) hle
  ·have:=ha.defers;subst mJ;exact this
  ·have:=wv (fn:=fn) ha;simp only[Frame.at];rw[this];exact hv
 ·rintro ch ρ ds ae a todo ha ⟨mJ,τ,hle,hR⟩;refine ax.ik (τ:=τ) (ax.here ⟨.panicked ch,_,rfl,rfl,⟨rfl,?_,fn,hf⟩,hR⟩) hle;have:=ha.defers;subst mJ;exact this
variable {n:Nat}
def YY{rs:Array ResultVar}(hf:P.funcs[f]? =some fn)(hn:fn.ntmps=n)(hr:fn.results=rs)(hb:fn.body=some (.scope c))(hs:args.size<=fn.ntmps)(h:∀Q:Post,(∀{ρ σ τ v},ln P rs ρ τ v->τ.le σ->R (.returned v) τ->Q .normal ρ [] σ)->(∀{ρ σ τ v},ln P rs ρ τ v->τ.le σ->R (.returned v) τ->Q .ret ρ [] σ)->(∀ch ρ σ τ,τ.le σ->R (.panicked ch) τ->Q (.panic ch) ρ [] σ)->
  cK E n c Q (nB args n) [] σ):ay E f args σ R:=by
 subst hn;subst hr;refine YZ hf hb hs (h _ ?_ ?_ ?_)
 ·exactλ{ρ σ τ v} h1 hl h2=>⟨rfl,v,τ,hl,h1,h2⟩
 ·exactλ{ρ σ τ v} h1 hl h2=>⟨rfl,v,τ,hl,h1,h2⟩
 ·exactλch ρ σ τ hl h=>⟨rfl,τ,hl,h⟩
variable {τ:Hp}{v:Value}
def Sl.read{κ:Type}{f:κ->Value}{ety:TypeId}{ys:List κ}(hs:Sl ety τ (ys.map f) v):
 ∃base cap,v=.slice base ys.length cap/\∀i (hi:i<ys.length),∃(a:Nat) (L:List Value),base=some ⟨a,0,none⟩/\τ.f a=some (.cells L.toArray ety (0,0))/\L[i]? =some (f ys[i]):=by
 generalize hk:ys.map f=ks at hs;have hl:ks.length=ys.length:=by rw[<-hk];simp
 cases hs with
 |nil h0=>exact⟨_,_,by rw[<-hl,h0];rfl,λi hi=>by rw[<-hl,h0]at hi;cases hi⟩
 |«at»a pad ha=>
  refine⟨_,_,by rw[hl],λi hi=>⟨a,_,rfl,ha,?_⟩⟩;rw[List.getElem?_append_left aa,<-hk];simp[hi]
def Idle(σ:Hp)(c:Nat)(l:List (Int×Value×Nat)):Prop:=
 ∀e∈l,∃h un co k1 k2 hr,e.2.1=pV h/\σ.f h=some (iu c e.1 un co hr)/\σ.f un=some (aU aV [] k1)/\σ.f co=some (aU bR [] k2)
variable {c:Nat}
def Idle.le(h:Idle σ c l)(k:σ.le τ):Idle τ c l:=by intro e he;obtain⟨h,un,co,k1,k2,hr,a,b,d,f⟩:=h e he;exact⟨h,un,co,k1,k2,hr,a,k _ _ b,k _ _ d,k _ _ f⟩
def E7(σ:Hp)(qs:List Nat):Prop:=∀q∈qs,∃name b c held last cons,σ.f q=some (fw name (.slice b 0 c) held last cons)
def E7.le{qs:List Nat}(h:E7 σ qs)(k:σ.le τ):E7 τ qs:=by intro q hq;obtain⟨name,b,c,held,last,cons,e⟩:=h q hq;exact⟨name,b,c,held,last,cons,k _ _ e⟩
def oE:ou prog 43 where
 e:=55
 z:=2
 zero:=#[.int .i64 0,.string (B [])]
 bytes:=24
 hu:=ah
 hi:=⟨Tryz.t55,.agg #[.int .i64 0,.string (B [])],ah,ah,ah,rfl,ah⟩
structure Rest (σ:Hp) (g:Nat) (cfg:jA) (br mc mq:Nat) (clock last:Int) (dg messages bh:Int) (lq:List (List UInt8×Value×Nat)) (kq:Nat) (qs:List Nat):Prop where
 hg:σ.f g=some (eE cfg br mc clock last)
 hb:σ.f br=some (gZ mq dg messages bh)
 hm:σ.f mq=some (aU bR lq kq)
 hold:∀e∈lq,e.2.2<kq
 hn:(lq.map (·.2.2)).Nodup
 gq:lq.length<=12
 mR:lq.map (·.2.1)=qs.map dU
 bw:E7 σ qs
def Rest.le {σ τ:Hp}{g br mc mq kq:Nat}{cfg:jA}{clock last dg messages bh:Int}{lq:List (List UInt8×Value×Nat)}{qs:List Nat}(h:Rest σ g cfg br mc mq clock last dg messages bh lq kq qs)(k:σ.le τ):Rest τ g cfg br mc mq clock last dg messages bh lq kq qs:=
 ⟨k _ _ h.hg,k _ _ h.hb,k _ _ h.hm,h.hold,h.hn,h.gq,h.mR,h.bw.le k⟩
variable {chm:Nat}{cr:CR}
def Rest.set{mq kq:Nat}{dg messages bh:Int}{lq:List (List UInt8×Value×Nat)}{qs:List Nat}(h:Rest σ g cfg br mc mq clock last dg messages bh lq kq qs){gg:Nat}{id:Int}{o:Obj}(hc:σ.f c=some (fi gg id chm cr)):
 Rest (σ.set c o) g cfg br mc mq clock last dg messages bh lq kq qs:=by
 refine⟨?_,?_,?_,h.hold,h.hn,h.gq,h.mR,?_⟩
 ·rw[Hp.az];exact h.hg;intro e;have:=h.hg;rw[e,hc]at this;simp[eE,fi]at this
 ·rw[Hp.az];exact h.hb;intro e;have:=h.hb;rw[e,hc]at this;simp[gZ,fi]at this
 ·rw[Hp.az];exact h.hm;intro e;have:=h.hm;rw[e,hc]at this;simp[aU,fi]at this
 ·intro q hq;obtain⟨name,b,cc,held,last,cons,e⟩:=h.bw q hq;refine⟨name,b,cc,held,last,cons,?_⟩;rw[Hp.az];exact e;intro e2;rw[e2,hc]at e;simp[fw,fi]at e
def ay.ik {P:Program}{E:Env P}{f:FuncId}{args:Array Value}{σ τ:Hp}{R:Fin->Hp->Prop}(h:ay E f args τ R)(k:τ.le σ):ay E f args σ R:=λcs=>(h cs).ik k
variable {E:Env prog}{k:Nat}{ch:List UInt8}
def abg{id:Int}(hg:σ.f g=some (eE cfg br mc clock last))(mO:σ.f mc=some (aU aV l k))(fA:dn l id=none):
 ay E 25 #[pV g,iV id,sV ch] σ λe τ=>e=.returned (.tuple #[.slice none 0 0,.iface 51 (iV 3)])/\τ=σ:=by
 refine fI func25 ntmps25 results25 rfl al λQ aC an aA=>?_;simp only[eE]at hg;refine aG hg ?_;refine jM (b:=mc) (k:=id) ud (z:=.pointer none) ah ?_ mO ?_ ?_
 ·exact au
 ·simp only[go_sem,seval,aV]
 have dk:((dn l id).map (·.2.1)).getD (.pointer none)=.pointer none:=by rw[fA];rfl
 simp only[go_sem,seval,dk,Bool.false_eq_true];exact an iT ao ⟨by simp[up],rfl⟩
def abf{st:Nat}{id:Int}(hg:σ.f g=some (eE cfg br mc clock last))(mO:σ.f mc=some (aU aV l k))(fA:dn l id=some (id,pV c,st))(Jf:ay E 39 #[pV g] σ λe τ=>∃v,e=.returned v/\R (.returned (.tuple #[v,.nilIface])) τ):
 ay E 25 #[pV g,iV id,sV []] σ R:=by
 refine aW func25 ntmps25 results25 λQ aC an aA=>?_;simp only[eE]at hg;refine aG hg ?_;refine jM (b:=mc) (k:=id) ud (z:=.pointer none) ah ?_ mO ?_ ?_
 ·exact au
 ·simp only[go_sem,seval,aV]
 have dk:((dn l id).map (·.2.1)).getD (.pointer none)=pV c:=by rw[fA];rfl
 simp only[go_sem,seval,dk,Bool.false_eq_true,decide_true];refine aL Jf ?_;rintro v τ ⟨v',hv,hR⟩
 cases hv
 refine ag ?_;exact an iT ao (by simpa[up]using hR)
def abe{st:Nat}{id:Int}(hg:σ.f g=some (eE cfg br mc clock last))(mO:σ.f mc=some (aU aV l k))(fA:dn l id=some (id,pV c,st))(hc:σ.f c=some (fi g id chm cr))(dK:ch≠[])(Cv:ay E 40 #[pV c,sV ch] (σ.set c (fi g id chm {cr with recv:=clock})) λe τ=>e=.returned (.tuple #[])/\ay E 39 #[pV g] τ λe' cC=>∃v,e'=.returned v/\R (.returned (.tuple #[v,.nilIface])) cC):
 ay E 25 #[pV g,iV id,sV ch] σ R:=by
 refine aW func25 ntmps25 results25 λQ aC an aA=>?_;simp only[eE]at hg;refine aG hg ?_;refine jM (b:=mc) (k:=id) ud (z:=.pointer none) ah ?_ mO ?_ ?_
 ·exact au
 ·simp only[go_sem,seval,aV]
 have dk:((dn l id).map (·.2.1)).getD (.pointer none)=pV c:=by rw[fA];rfl
 have e1:σ.set c (fi g id chm {cr with recv:=clock})=σ.set c (.cells [pV g,iV id,iV cr.ph,sV cr.rest,.bool cr.kx,.map (some chm),iV cr.dg,iV cr.frame,iV cr.gh,iV cr.gV,iV clock,sV cr.out].toArray 90 (0,0)):=rfl;simp only[fi,CR.vals]at hc;simp only[go_sem,seval,dk,Bool.false_eq_true,dK,hg,hc];rw[e1]at Cv;refine aL Cv ?_;rintro w HV ⟨hw,Jf⟩
 cases hw
 refine ag ?_;refine aL Jf ?_;rintro v τ ⟨v',hv,hR⟩
 cases hv
 refine ag ?_;exact an iT ao (by simpa[up]using hR)
structure FR where
 u:Un
 s:List UInt8
 cl:Int
 me:Int
def FR.vals(f:FR):List Value:=[iV f.u.kind,iV f.u.channel,sV f.u.iS,.bool f.u.jT,.bool f.u.fR,sV f.s,iV f.cl,iV f.me]
def bN(f:FR):Obj:=.cells f.vals.toArray 293 (0,0)
def FR.kQ(f:FR)(cl:Int)(ms:List Int):Bool:=decide (f.u.kind=1)&&(decide (f.cl=cl)&&decide (f.me∈ms))
variable {bm cap:Nat}{ms:List Int}{x:Int}{pad:List Value}
def ago(hb:σ.f bm=some (.cells (ms.map iV++pad).toArray 3 (0,0)))(hn:ms.length<=1000):
 ay E 247 #[.slice (some ⟨bm,0,none⟩) ms.length cap,iV x] σ λe τ=>(∃k:Int,e=.returned (iV k)/\(0<=k↔x∈ms))/\τ=σ:=by
 refine aW func247 ntmps247 results247 λQ aC an aA=>?_;refine ag ?_;refine dh (λm ρ ds ae=>ds=[]/\ρ 0=.slice (some ⟨bm,0,none⟩) ms.length cap/\ρ 1=iV x/\ρ 7=iV ms.length/\ae=σ/\∃i:Nat,i+m=ms.length/\ρ 8=iV i/\x∉ms.take i) ms.length ?_ ?_
 ·refine⟨rfl,?_,?_,?_,rfl,0,al,?_,al⟩<;>exact au
  try rfl
 ·rintro m ρ ds ae X ⟨rfl,h0,h1,h7,rfl,i,yQ,h8,nS⟩ hX
  cases m with
  |zero=>
   have c0:¬(i:Int)<ms.length:=aa;refine bO h7 h8 c0 ?_;rw[List.take_of_length_le aa]at nS;exact an aI ao ⟨⟨-1,by simp[up],by simp[nS]⟩,rfl⟩
  |succ m=>
   have hi:i<ms.length:=aa;have c0:(i:Int)<ms.length:=aa;have c1:(0:Int)<=i:=aa;have hL:(ms.map iV++pad)[i]? =some (iV ms[i]):=by rw[List.getElem?_append_left (aZ hi)];simp[hi]
   have w1:=fF i;by_cases hx:x=ms[i]
   ·simp only[go_sem,seval,h0,h1,h7,h8,c0,c1,hb,hL,hx,decide_true];refine an aI ao ⟨⟨(i:Int),?_,?_⟩,rfl⟩
    ·simp[up]
    ·exact⟨λ_=>by rw[hx];exact List.getElem_mem hi,λ_=>aa⟩
   ·simp only[go_sem,seval,h0,h1,h7,h8,c0,c1,hb,hL,hx,decide_false,w1];refine hX m _ _ _ _ aa ⟨rfl,?_,?_,?_,rfl,i+1,aa,?_,?_⟩ ao
    ·exact aK h0
    ·exact aK h1
    ·exact aK h7
    ·exact au
    ·intro hm;rw[List.take_succ_eq_append_getElem hi,List.mem_append]at hm;rcases hm with h|h
     ·exact nS h
     ·exact hx (aZ h)
def Z3(hb:σ.f bm=some (.cells (ms.map iV++pad).toArray 3 (0,0)))(hn:ms.length<=1000):
 ay E 232 #[.slice (some ⟨bm,0,none⟩) ms.length cap,iV x] σ λe τ=>e=.returned (.bool (decide (x∈ms)))/\τ=σ:=by
 refine fI func232 ntmps232 results232 rfl al λQ aC an aA=>?_;refine ag ?_;refine dC acu (ago hb hn) ?_ (λch ae ⟨⟨_,h,_⟩,_⟩=>by cases h);rintro v τ ⟨⟨k,hv,hk⟩,rfl⟩
 cases hv
 refine ag ?_;exact an aI ao ⟨by simp[up,hk],rfl⟩
variable {bf:Nat}{f:FR}
def tX{cl:Int}(hf:σ.f bf=some (bN f))(hb:σ.f bm=some (.cells (ms.map iV++pad).toArray 3 (0,0)))(hn:ms.length<=1000):
 ay E 193 #[pV bf,iV cl,.slice (some ⟨bm,0,none⟩) ms.length cap] σ λe τ=>e=.returned (.bool (f.kQ cl ms))/\τ=σ:=by
 refine fI func193 ntmps193 results193 rfl al λQ aC an aA=>?_;simp only[bN,FR.vals]at hf;by_cases h1:f.u.kind=1
 ·by_cases h2:f.cl=cl
  ·simp only[go_sem,seval,hf,h1,h2,decide_true];refine aR (Z3 hb hn) ?_;refine ag ?_;refine an aI ao ⟨?_,rfl⟩;simp[up,FR.kQ,h1,h2]
  ·simp only[go_sem,seval,hf,h1,h2,decide_true,decide_false];refine an aI ao ⟨?_,rfl⟩;simp[up,FR.kQ,h1,h2]
 ·simp only[go_sem,seval,hf,h1,decide_false];refine an aI ao ⟨?_,rfl⟩;simp[up,FR.kQ,h1]
def abd{e:Int}(hf:σ.f bf=some (bN f)):
 ay E 189 #[pV bf,iV e] σ λe' τ=>∃b,e'=.returned (.iface 214 (pV b))/\σ.f b=none/\τ=σ.set b (.cells [iV e,iV f.cl,iV f.me].toArray 217 (0,0)):=by
 refine aW func189 ntmps189 results189 λQ aC an aA=>?_;simp only[bN,FR.vals]at hf;refine ag ?_;refine bG 13 ?_;refine aG hf ?_;refine fO ?_;refine ag ?_;refineλb hb=>⟨by(repeat(first|exact js|(apply jr;(focus decide+kernel)))),?_⟩;refine ag ?_;refine an aI ao ⟨b,?_,hb,rfl⟩;simp[up]
def KT:mr prog 355 aV:=⟨85,3,.int .i64,ah,ah,.inl ⟨_,rfl⟩,Hh _,Hd⟩
section
variable {E:Env prog}{σ:Hp}{P:Program}{ρ:av}{ds:List Deferred}{dst:Option Tmp}{ty:TypeId}{pos:String}{af:Array Edge}{g:Option (Nat×Bool)}{nx:av->List Deferred->Hp->Prop}{pn:List PanicEntry->Hp->Prop}{t:TypeId}{c:Nat}
variable {E:Env P}
variable {α:Type}[DecidableEq α]{f:α->Value}{l:List (α×Value×Nat)}{k:α}
def R6 {m i v:Operand}(ko:mr P t f){b:Nat}{w:Value}{l':List (α×Value×Nat)}{c':Nat}(hu:jD l)(hm:ak ρ m=.map (some b))(hb:σ.f b=some (aU f l c))(hi:ak ρ i=f k)(hv:ak ρ v=w)(hl:l'=ji l k w c)(hc:c'=ju l k c)
 (h:∀τ,τ=σ.set b (aU f l' c')->nx (aB ρ dst undef) ds τ):aT E ⟨dst,.insert t m i v,ty,pos,af,g⟩ ρ ds σ nx pn:=by
 subst hv;subst hl;subst hc;exact agu ko hu hm hb hi (h _ rfl)
end
def Iw(ch cl me:Nat)(xs:List Arg):(ck ch cl me xs).length=(cW xs).length+12:=by simp[ck,nL,cW,ep,bV];omega
def Hc{id:Int}{ch cl me:Nat}{xs:List Arg}(hg:σ.f g=some (eE cfg br mc clock last))(hc:σ.f c=some (fi g id chm cr))(hv:zN σ xs v)(fV:∀a∈xs,kH a)(hn:xs.length<=1000)(dK:ch<9223372036854775808)(aM:cl<9223372036854775808)(aP:me<9223372036854775808)(fM:(cW xs).length<=10000000)(fN:cr.out.length<=1000000000000000):
 ay E 105 #[pV c,iV ch,iV cl,iV me,v] σ λe τ=>e=.returned (.tuple #[])/\τ=σ.set c (fi g id chm {cr with out:=cr.out++ck ch cl me xs,gV:=clock}):=by
 have uq:g≠c:=bp hc hg (by simp[eE,fi]);exact Y7 (bc:=c) (bg:=g) (l:=cr.vals g id chm) (lg:=[iV cfg.jc,iV cfg.frame,iV cfg.gh,iV cfg.queue,iV cfg.body,pV br,iV clock,iV last,.map (some mc)]) hc hg rfl rfl rfl rfl uq hv fV hn dK aM aP fM (by rw[Iw];omega)
variable {ρ:av}{ds:List Deferred}{dst:Option Tmp}{ty:TypeId}{pos:String}{af:Array Edge}{g:Option (Nat×Bool)}{nx:av->List Deferred->Hp->Prop}{pn:List PanicEntry->Hp->Prop}{E:Env P}{t e:TypeId}{x:Operand}
def agp{i:Operand}{b:Nat}{k:IntKind}{j:Int}{ie:TypeInfo}(hu:P.underlying t=some (.array n e))(he:P.info? e=some ie)(hz:ie.size=1)(hx:ak ρ x=pV b)(hi:ak ρ i=.int k j)(h0:0<=j)(hn:j<n)(hs:iE P t=none)(h:nx (aB ρ dst (.pointer (some ⟨b,j.toNat,none⟩))) ds σ):
 qj (aT E ⟨dst,.indexAddr t x i,ty,pos,af,g⟩ ρ ds σ nx pn) (λz=>ua (wpOp E ⟨dst,.indexAddr t x i,ty,pos,af,g⟩ ρ ds σ nx pn) z (λv=>nx (aB ρ dst v) ds σ) (ak ρ i) (ak ρ x)) (iE P t):=by
 rw[hs,Fv]
 have fD:s5 P t=none:=by unfold s5;rw[hu]
 have e0:aT E ⟨dst,.indexAddr t x i,ty,pos,af,g⟩ ρ ds σ nx pn=wpOp E ⟨dst,.indexAddr t x i,ty,pos,af,g⟩ ρ ds σ nx pn:=by simp only[aT,fD]
 rw[e0];unfold wpOp;simp only[execOp,Instr.indexAt,aH,hi,hx,asIntOf,bq,dZ,hu,Instr.sureAddr];rw[if_pos ⟨h0,by exact_mod_cast hn⟩];simp only[aH,sizeOf,fQ,he,bq,hz,Nat.mul_one];have e1:(⟨b,0,none⟩:Addr).add j.toNat=⟨b,j.toNat,none⟩:=by rw[Ii,Nat.zero_add]
 rw[e1];exact h
def amD{s:List UInt8}(hu:P.underlying t=some .string)(hx:ak ρ x=.string (B s))(h:∀it,σ.f it=none->nx (aB ρ dst (pV it)) ds (σ.set it (.stringIter (B s) 0))):aT E ⟨dst,.range t x,ty,pos,af,g⟩ ρ ds σ nx pn:=by
 show wpOp E _ ρ ds σ nx pn;unfold wpOp;simp only[execOp,Instr.range,aH,dZ,hu,hx,bq,xW];exact h
def S5{it pos':Nat}{s:List UInt8}(hx:ak ρ x=pV it)(hi:σ.f it=some (.stringIter (B s) pos'))(h1:pos'<s.length->nx (aB ρ dst (.tuple #[.bool true,.int .i64 pos',.int .i32 (Utf8.decode (B s) pos').1])) ds (σ.set it (.stringIter (B s) (pos'+(Utf8.decode (B s) pos').2))))(h2:¬pos'<s.length->nx (aB ρ dst (.tuple #[.bool false])) ds σ):aT E ⟨dst,.next x true,ty,pos,af,g⟩ ρ ds σ nx pn:=by
 show wpOp E _ ρ ds σ nx pn;unfold wpOp;simp only[execOp,Instr.next,aH,hx,oj];refine⟨_,hi,rfl,?_⟩;by_cases h:pos'<s.length
 ·have h':pos'<(B s).size:=by rw[wB];exact h
  simp only[if_pos h',aH,ta];exact⟨_,hi,rfl,h1 h⟩
 ·have h':¬pos'<(B s).size:=by rw[wB];exact h
  simp only[if_neg h',bq];exact h2 h
variable {E:Env prog}{q:Nat}{name:List UInt8}{b:Option Addr}{held:Int}
def L6{cons:Value}(hq:σ.f q=some (fw name (.slice b n cap) held last cons)):ay E 35 #[pV q] σ λe τ=>e=.returned (iV n)/\τ=σ:=by refine fI func35 ntmps35 results35 rfl al λQ aC an aA=>?_;simp only[fw]at hq;refine aG hq ?_;exact an aI ao ⟨by simp[up],rfl⟩
def OQ{ready:Value}(hq:σ.f q=some (fw name ready held last (.slice b n cap))):ay E 36 #[pV q] σ λe τ=>e=.returned (iV n)/\τ=σ:=by refine fI func36 ntmps36 results36 rfl al λQ aC an aA=>?_;simp only[fw]at hq;refine aG hq ?_;exact an aI ao ⟨by simp[up],rfl⟩
def akK{g:Nat}{id:Int}{no:Nat}{s0:List UInt8}(hg:σ.f g=some (eE cfg br mc clock last))(hc:σ.f c=some (fi g id chm cr))(hm:σ.f chm=some (aU aV l k))(hu:jD l)(hf:σ.f bf=some (bN f))(dY:f.u.channel=(no:Int))(arY:no<1000000)(aeZ:(no:Int)<=cr.dg)(hl:dn l (no:Int)=none)(hM:f.kQ 20 [10]=true)(ht:jP f.s=some (s0,[]))(fN:cr.out.length<=100000000000000):
 ay E 192 #[pV c,pV bf] σ λe τ=>e=.returned .nilIface/\∃un co h,σ.f un=none/\σ.f co=none/\σ.f h=none/\un≠co/\h≠un/\h≠co/\
  τ=(((((σ.set bf (bN {f with s:=[]})).set un (aU aV [] 0)).set co (aU bR [] 0)).set h (iu c no un co ⟨false,0,0,0,[],[],0⟩)).set chm (aU aV (ji l (no:Int) (pV h) k) (ju l (no:Int) k))).set c (fi g id chm {cr with out:=cr.out++ck no 20 11 [.long 0],gV:=clock}):=by
 refine aW func192 ntmps192 results192 λQ aC an aA=>?_;have AL:=hf;have cA:=hc;simp only[fi,CR.vals]at cA;simp only[bN,FR.vals,dY]at AL;have c1:¬(no:Int)>cr.dg:=aa;refine ag ?_;refine bG 10 ?_;refine bO cA AL c1 ?_;refine bG 11 ?_;refine bt cA AL ?_;refine jM (b:=chm) (k:=(no:Int)) (l:=l) (c:=k) ue (z:=.pointer none) ah ?_ hm ?_ ?_
 ·exact au
 ·exact au
 have dk:((dn l (no:Int)).map (·.2.1)).getD (.pointer none)=.pointer none:=by rw[hl];rfl
 refine⟨iP AL cA,?_⟩;simp only[go_sem,seval,dk,Bool.false_eq_true];refineλbm dF=>?_;have nb:∀{x o},σ.f x=some o->¬x=bm:=λh e=>by subst e;rw[h]at dF;cases dF
 have jV:∀o,σ.le (σ.set bm o):=λo x y h=>by rw[Hp.az (nb h)];exact h
 refine ag ?_;refine aR (tX (ms:=[10]) (pad:=[]) (jV _ _ _ hf) aY al) ?_;simp only[go_sem,seval,hM,Bool.not_true];have FV:=jV (.cells #[iV 10] 3 (0,0)) _ _ hf;simp only[bN,FR.vals,dY]at FV;refine B7 sf (s6 FV rfl) (λw rest hr=>?_) (λhr=>by rw[ht]at hr;cases hr);rw[ht]at hr;obtain⟨rfl,rfl⟩:s0=w/\[]=rest:=aZ hr;refine ag ?_;refine aL (Pc aY rfl) ?_;rintro v dr ⟨hv,R0⟩
 cases hv
 have ncf:¬c=bf:=bp hc hf (by simp[fi,bN]);have ngf:¬g=bf:=bp hg hf (by simp[eE,bN]);have Lx:¬chm=bf:=bp hm hf (by simp[aU,bN]);have uq:¬g=c:=bp hc hg (by simp[eE,fi])
 have tJ:(σ.set bf (bN {f with s:=[]})).le dr:=by
  rw[R0]
  have e:(Obj.cells (([iV f.u.kind,iV no,sV f.u.iS,.bool f.u.jT,.bool f.u.fR,sV f.s,iV f.cl,iV f.me]:List Value).set 5 (.string (B []))).toArray 293)=bN {f with s:=[]}:=by simp[bN,FR.vals,dY]
  rw[e];exact gW (jV _) _ _
 clear R0;have kM:=tJ _ _ ((Hp.az ncf).trans hc);have xe:=tJ _ _ ((Hp.az ngf).trans hg);have rq:=tJ _ _ ((Hp.az Lx).trans hm);have mK:=tJ _ _ aY;have ib:=kM;have sz:=xe;simp only[fi,CR.vals]at ib;simp only[eE]at sz;simp only[bN,FR.vals,dY]at mK;refine ag ?_;refine MT 15 16 [0,1,2,3,4,5,6,7,8,9,10,11,12,13,14,15,16,17,18,19] [0,1,2,3,4,5,6,7,8,9,10,11,12,13,14,16,15,17,18,19] (λ_ _ _=>False) ah ir (λ_ _ _ _ h=>h.elim) ?_ ?_<;>simp only[gY,List.modify_toArray,List.modify_succ_cons,List.modify_zero_cons]
 ·refine bt ib mK ?_;refineλun ij=>?_;have vW:∀{x o},dr.f x=some o->¬x=un:=λh e=>by subst e;rw[ij]at h;cases h
  have DF:∀o,(dr.set un o).f c=_:=λo=>(Hp.az (vW ib)).trans ib;have DO:∀o,(dr.set un o).f bf=_:=λo=>(Hp.az (vW mK)).trans mK;refine⟨iP DF DO,?_⟩;refine ag ?_;refineλco qy=>?_;have Bb:¬co=un:=bp qy aY;rw[Hp.az Bb]at qy;have vV:∀{x o},dr.f x=some o->¬x=co:=λh e=>by subst e;rw[qy]at h;cases h
  have vO:∀o o',((dr.set un o).set co o').f c=_:=λo o'=>(Hp.az (vV ib)).trans (DF o);have zi:∀o o',((dr.set un o).set co o').f bf=_:=λo o'=>(Hp.az (vV mK)).trans (DO o);refine⟨iP vO zi,?_⟩;refine ag ?_;refine⟨iP vO zi,?_⟩;refine ag ?_;refineλh hh=>?_;have Ea:¬h=co:=bp hh aY;rw[Hp.az Ea]at hh;have D9:¬h=un:=bp hh aY;rw[Hp.az D9]at hh;have nh:∀{x o},dr.f x=some o->¬x=h:=λk e=>by subst e;rw[hh]at k;cases k
  have hH:∀o,((dr.set un (aU aV [] 0)).set co (aU bR [] 0)).set h o=((dr.set un (aU aV [] 0)).set co (aU bR [] 0)).set h o:=λo=>rfl;have e1:((dr.set un (.map #[] 0)).set co (.map #[] 0)).set h (iu c no un co ⟨false,0,0,0,[],[],0⟩)=((dr.set un (aU aV [] 0)).set co (aU bR [] 0)).set h (iu c no un co ⟨false,0,0,0,[],[],0⟩):=hH _;have DG:∀o o' bU,(((dr.set un o).set co o').set h bU).f c=_:=λo o' bU=>(Hp.az (nh ib)).trans (vO o o');have DR:∀o o' bU,(((dr.set un o).set co o').set h bU).f bf=_:=λo o' bU=>(Hp.az (nh mK)).trans (zi o o');have Lh:∀o o' bU,(((dr.set un o).set co o').set h bU).f chm=some (aU aV l k):=λo o' bU=>(Hp.az (nh rq)).trans ((Hp.az (vV rq)).trans ((Hp.az (vW rq)).trans rq));have Lg:∀o o' bU,(((dr.set un o).set co o').set h bU).f g=_:=λo o' bU=>(Hp.az (nh sz)).trans ((Hp.az (vV sz)).trans ((Hp.az (vW sz)).trans sz));refine⟨iP DG DR,?_⟩;refine ag ?_;refine Ba (b:=chm) (k:=(no:Int)) ue hu ?_ (Lh _ _ _) ?_ ?_
  ·exact au
  ·exact au
  refine fO ?_;have Lu:¬c=chm:=bp rq kM (by simp[aU,fi]);have Lv:¬bf=chm:=λe=>Lx e.symm;have Lw:¬g=chm:=bp rq xe (by simp[aU,eE]);have Le:∀o o' bU o3,((((dr.set un o).set co o').set h bU).set chm o3).f bf=_:=λo o' bU o3=>(Hp.az Lv).trans (DR o o' bU);have DI:∀o o' bU o3,((((dr.set un o).set co o').set h bU).set chm o3).f c=_:=λo o' bU o3=>(Hp.az Lu).trans (DG o o' bU);have DT:∀o o' bU o3,((((dr.set un o).set co o').set h bU).set chm o3).f g=_:=λo o' bU o3=>(Hp.az Lw).trans (Lg o o' bU);refine aG Le ?_;refineλba gO=>?_;have JI:((((dr.set un (.map #[] 0)).set co (.map #[] 0)).set h (iu c no un co ⟨false,0,0,0,[],[],0⟩)).set chm (aU aV (ji l (no:Int) (pV h) k) (ju l (no:Int) k))).f ba=none:=gO;have vU:∀{x o},((((dr.set un (.map #[] 0)).set co (.map #[] 0)).set h (iu c no un co ⟨false,0,0,0,[],[],0⟩)).set chm (aU aV (ji l (no:Int) (pV h) k) (ju l (no:Int) k))).f x=some o->¬x=ba:=λk e=>by subst e;rw[JI]at k;cases k
  refine ag ?_;refine aR (Hc (g:=g) (id:=id) (chm:=chm) (cr:=cr) (ch:=no) (cl:=20) (me:=11) (xs:=[.long 0]) ((Hp.az (vU (DT _ _ _ _))).trans (DT _ _ _ _)) ((Hp.az (vU (DI _ _ _ _))).trans (DI _ _ _ _)) (.inr ⟨ba,rfl,aY⟩) (by simp[kH]) al aa ai ai ai aa) ?_;refine ag ?_
  have back:∀{x},dr.f x=none->σ.f x=none:=by
   intro x hx
   cases hs:σ.f x with
   |none=>rfl
   |some o=>
    by_cases e:x=bf
    ·subst e;rw[mK]at hx;cases hx
    ·rw[tJ _ _ ((Hp.az e).trans hs)]at hx;cases hx
  refine an (τ:=((((((σ.set bf (bN {f with s:=[]})).set un (aU aV [] 0)).set co (aU bR [] 0)).set h (iu c no un co ⟨false,0,0,0,[],[],0⟩)).set chm (aU aV (ji l (no:Int) (pV h) k) (ju l (no:Int) k))).set c (fi g id chm {cr with out:=cr.out++ck no 20 11 [.long 0],gV:=clock}))) aI ?_ ⟨?_,un,co,h,back ij,back qy,back hh,(λe=>Bb e.symm),D9,Ea,rfl⟩
  ·refine gW ?_ _ _;have k1:(((((σ.set bf (bN {f with s:=[]})).set un (aU aV [] 0)).set co (aU bR [] 0)).set h (iu c no un co ⟨false,0,0,0,[],[],0⟩)).set chm (aU aV (ji l (no:Int) (pV h) k) (ju l (no:Int) k))).le ((((dr.set un (aU aV [] 0)).set co (aU bR [] 0)).set h (iu c no un co ⟨false,0,0,0,[],[],0⟩)).set chm (aU aV (ji l (no:Int) (pV h) k) (ju l (no:Int) k))):=gW (gW (gW (gW tJ _ _) _ _) _ _) _ _;rw[<-e1]at k1;exact Hp.le_trans k1 (λx o hx=>(Hp.az (vU hx)).trans hx)
  ·simp[up]
 ·refine bt ib mK ?_;refineλco qy=>?_;have vV:∀{x o},dr.f x=some o->¬x=co:=λh e=>by subst e;rw[qy]at h;cases h
  have DF:∀o,(dr.set co o).f c=_:=λo=>(Hp.az (vV ib)).trans ib;have DO:∀o,(dr.set co o).f bf=_:=λo=>(Hp.az (vV mK)).trans mK;refine⟨iP DF DO,?_⟩;refine ag ?_;refineλun ij=>?_;have Bb:¬un=co:=bp ij aY;rw[Hp.az Bb]at ij;have vW:∀{x o},dr.f x=some o->¬x=un:=λh e=>by subst e;rw[ij]at h;cases h
  have vO:∀o o',((dr.set co o).set un o').f c=_:=λo o'=>(Hp.az (vW ib)).trans (DF o);have zi:∀o o',((dr.set co o).set un o').f bf=_:=λo o'=>(Hp.az (vW mK)).trans (DO o);refine⟨iP vO zi,?_⟩;refine ag ?_;refine⟨iP vO zi,?_⟩;refine ag ?_;refineλh hh=>?_;have Ea:¬h=un:=bp hh aY;rw[Hp.az Ea]at hh;have D9:¬h=co:=bp hh aY;rw[Hp.az D9]at hh;have nh:∀{x o},dr.f x=some o->¬x=h:=λk e=>by subst e;rw[hh]at k;cases k
  have hH:∀o,((dr.set co (aU bR [] 0)).set un (aU aV [] 0)).set h o=((dr.set un (aU aV [] 0)).set co (aU bR [] 0)).set h o:=λo=>by rw[Hp.set_comm (λe=>Bb e.symm)]
  have e1:((dr.set co (.map #[] 0)).set un (.map #[] 0)).set h (iu c no un co ⟨false,0,0,0,[],[],0⟩)=((dr.set un (aU aV [] 0)).set co (aU bR [] 0)).set h (iu c no un co ⟨false,0,0,0,[],[],0⟩):=hH _;have DG:∀o o' bU,(((dr.set co o).set un o').set h bU).f c=_:=λo o' bU=>(Hp.az (nh ib)).trans (vO o o');have DR:∀o o' bU,(((dr.set co o).set un o').set h bU).f bf=_:=λo o' bU=>(Hp.az (nh mK)).trans (zi o o');have Lh:∀o o' bU,(((dr.set co o).set un o').set h bU).f chm=some (aU aV l k):=λo o' bU=>(Hp.az (nh rq)).trans ((Hp.az (vW rq)).trans ((Hp.az (vV rq)).trans rq));have Lg:∀o o' bU,(((dr.set co o).set un o').set h bU).f g=_:=λo o' bU=>(Hp.az (nh sz)).trans ((Hp.az (vW sz)).trans ((Hp.az (vV sz)).trans sz));refine⟨iP DG DR,?_⟩;refine ag ?_;refine Ba (b:=chm) (k:=(no:Int)) ue hu ?_ (Lh _ _ _) ?_ ?_
  ·exact au
  ·exact au
  refine fO ?_;have Lu:¬c=chm:=bp rq kM (by simp[aU,fi]);have Lv:¬bf=chm:=λe=>Lx e.symm;have Lw:¬g=chm:=bp rq xe (by simp[aU,eE]);have Le:∀o o' bU o3,((((dr.set co o).set un o').set h bU).set chm o3).f bf=_:=λo o' bU o3=>(Hp.az Lv).trans (DR o o' bU);have DI:∀o o' bU o3,((((dr.set co o).set un o').set h bU).set chm o3).f c=_:=λo o' bU o3=>(Hp.az Lu).trans (DG o o' bU);have DT:∀o o' bU o3,((((dr.set co o).set un o').set h bU).set chm o3).f g=_:=λo o' bU o3=>(Hp.az Lw).trans (Lg o o' bU);refine aG Le ?_;refineλba gO=>?_;have JI:((((dr.set co (.map #[] 0)).set un (.map #[] 0)).set h (iu c no un co ⟨false,0,0,0,[],[],0⟩)).set chm (aU aV (ji l (no:Int) (pV h) k) (ju l (no:Int) k))).f ba=none:=gO;have vU:∀{x o},((((dr.set co (.map #[] 0)).set un (.map #[] 0)).set h (iu c no un co ⟨false,0,0,0,[],[],0⟩)).set chm (aU aV (ji l (no:Int) (pV h) k) (ju l (no:Int) k))).f x=some o->¬x=ba:=λk e=>by subst e;rw[JI]at k;cases k
  refine ag ?_;refine aR (Hc (g:=g) (id:=id) (chm:=chm) (cr:=cr) (ch:=no) (cl:=20) (me:=11) (xs:=[.long 0]) ((Hp.az (vU (DT _ _ _ _))).trans (DT _ _ _ _)) ((Hp.az (vU (DI _ _ _ _))).trans (DI _ _ _ _)) (.inr ⟨ba,rfl,aY⟩) (by simp[kH]) al aa ai ai ai aa) ?_;refine ag ?_
  have back:∀{x},dr.f x=none->σ.f x=none:=by
   intro x hx
   cases hs:σ.f x with
   |none=>rfl
   |some o=>
    by_cases e:x=bf
    ·subst e;rw[mK]at hx;cases hx
    ·rw[tJ _ _ ((Hp.az e).trans hs)]at hx;cases hx
  refine an (τ:=((((((σ.set bf (bN {f with s:=[]})).set un (aU aV [] 0)).set co (aU bR [] 0)).set h (iu c no un co ⟨false,0,0,0,[],[],0⟩)).set chm (aU aV (ji l (no:Int) (pV h) k) (ju l (no:Int) k))).set c (fi g id chm {cr with out:=cr.out++ck no 20 11 [.long 0],gV:=clock}))) aI ?_ ⟨?_,un,co,h,back ij,back qy,back hh,(λe=>Bb e),Ea,D9,rfl⟩
  ·refine gW ?_ _ _;have k1:(((((σ.set bf (bN {f with s:=[]})).set un (aU aV [] 0)).set co (aU bR [] 0)).set h (iu c no un co ⟨false,0,0,0,[],[],0⟩)).set chm (aU aV (ji l (no:Int) (pV h) k) (ju l (no:Int) k))).le ((((dr.set un (aU aV [] 0)).set co (aU bR [] 0)).set h (iu c no un co ⟨false,0,0,0,[],[],0⟩)).set chm (aU aV (ji l (no:Int) (pV h) k) (ju l (no:Int) k))):=gW (gW (gW (gW tJ _ _) _ _) _ _) _ _;rw[<-e1]at k1;exact Hp.le_trans k1 (λx o hx=>(Hp.az (vU hx)).trans hx)
  ·simp[up]
def gl(f:FuncId)(caps:Array Value):Deferred:={target:=.fn (.func f) caps,args:=#[]}
variable {fr:Frame}{df:FuncId}{caps:Array Value}
def aoF(hm:fr.mode=.returning)(hd:fr.defers=gl df caps::ds)(hg:cf P df=true):
 gM P main (G fr cs) σ λg ae=>ae=σ/\g=G (Frame.enter P df caps .deferred) ({fr with defers:=ds}::cs):=by
 intro J w cQ
 have h:wpS P (invoke (gl df caps).target (gl df caps).args) (λn ae=>n=.enter df caps/\ae=σ) (λ_ _=>False) σ:=by simp only[gl,invoke];refine HG hg ?_;simp
 obtain⟨w',ae,bX,e1,iw,dX,fU,hr⟩:=om _ w σ #[] h cQ;rcases hr with⟨nx,hn,rfl,rfl⟩|⟨hh,hn,hq⟩
 ·have gm:((invoke (gl df caps).target (gl df caps).args).runT P w #[]).2=bX:=by simpa using e1
  have e2:(invoke (gl df caps).target (gl df caps).args).runT P w #[]=(_,bX):=Prod.ext hn gm;have ix:∀fn,∀e∈seen P fn bX,im J w'.heap.size e:=λfn e he=>fU e (mem_seen he);have pK:((gl df caps).target matches .nil)=false:=rfl
  have step:stepG P main (G fr cs) w=callDeferred P {fr with defers:=ds} cs none (gl df caps) w:=by simp only[G,stepG,hm,unwind,hd];rfl
  rw[step];unfold callDeferred;simp only[pK];generalize invoke (gl df caps).target (gl df caps).args=s at e2|-;simp only[e2,GStep.after];exact⟨_,iw,dX,λe he=>ix _ e (aZ he),rfl,rfl,rfl⟩
 ·exact hq.elim
variable {b:Frame}{k:List Item}{cg:Array TypeId}{c:Frame}
def aoD{ops:Array Oper}{i:Nat}{rest:List Nat}{gd:Option (Nat×Bool)}(ho:ops[i]? =some ⟨dst,.call ⟨.builtin .recover,#[],cg⟩,ty,pos,af,gd⟩)(hw:Region.wanted ⟨dst,.call ⟨.builtin .recover,#[],cg⟩,ty,pos,af,gd⟩ (yielded ops a.tmps)=true)(hb:b.kind=.deferred)(hc:c.mode=.returning):
 gM P main (G (b.at a (.inRegion ops (i::rest)::k)) (c::cs)) σ λg ae=>ae=σ/\g=G (b.at (a.put dst .nilIface) (.inRegion ops rest::k)) (c::cs):=by
 intro J w hs
 have h:wpS P (execOp a.eval ⟨dst,.call ⟨.builtin .recover,#[],cg⟩,ty,pos,af,gd⟩) (λn ae=>n=.recover/\ae=σ) (λ_ _=>False) σ:=by simp only[execOp,resolve,aH,bq,invoke];exact⟨rfl,rfl⟩
 obtain⟨w',ae,bX,e1,cQ,dX,fU,hr⟩:=om _ w σ #[] h hs;have gm:((execOp a.eval ⟨dst,.call ⟨.builtin .recover,#[],cg⟩,ty,pos,af,gd⟩).runT P w #[]).2=bX:=by simpa using e1
 rw[stepG_oper ho hw];have ix:∀fn,∀e∈seen P fn bX,im J w'.heap.size e:=λfn e he=>fU e (mem_seen he);have eV:(b.at a (.inRegion ops (i::rest)::k)).finish .nilIface=b.at (a.put dst .nilIface) (.inRegion ops rest::k):=by rw[Frame.finish_at,ho];rfl
 have KB:tryRecover (b.at a (.inRegion ops (i::rest)::k)) (c::cs)=none:=by unfold tryRecover;simp only[Frame.at,hb,hc]
 rcases hr with⟨nx,hn,hq,rfl⟩|⟨hh,hn,hq⟩
 ·subst hq;have e2:(execOp a.eval ⟨dst,.call ⟨.builtin .recover,#[],cg⟩,ty,pos,af,gd⟩).runT P w #[]=(_,bX):=Prod.ext hn gm;generalize execOp a.eval _=s at e2|-;unfold stepG.apply;have Kt:(b.at a (.inRegion ops (i::rest)::k)).roundOf=none:=rfl;simp only[if_true,e2,Kt,KB,GStep.after,eV];refine⟨_,cQ,dX,λe he=>?_,rfl,rfl,rfl⟩;split at he
  ·simp[seen]at he
  ·simp only[Array.append_empty]at he;exact ix _ e he
 ·exact hq.elim
def aoy(hm:fr.mode=.returning)(hd:fr.defers=[])(hk:fr.kind=.deferred)(hc:c.mode=.returning)(hf:P.funcs[fr.fn]? =some fn)(hr:fn.results= #[]):
 gM P main (G fr (c::cs)) σ λg ae=>ae=σ/\g=G c cs:=by
 intro J w hs
 have eN:∀tmps,wpS P (results fn tmps) (λv' ae=>v'=.tuple #[]/\ae=σ) (λ_ _=>False) σ:=by intro tmps;simp[results,hr,bq]
 obtain⟨w',ae,bX,e1,cQ,dX,fU,Dr⟩:=om (results fn fr.tmps) w σ #[] (eN _) hs;rcases Dr with⟨v',hn,rfl,rfl⟩|⟨_,_,hq⟩
 ·have gm:((results fn fr.tmps).runT P w #[]).2=bX:=by simpa using e1
  have e2:(results fn fr.tmps).runT P w #[]=(.ok (.tuple #[]) w',bX):=Prod.ext hn gm
  have:stepG P main (G fr (c::cs)) w=.go (G c cs) w' (seen P fr.fn bX):=by simp[G,stepG,hm,unwind,hd,hf,-Sem.runT_eq,e2,doReturn,hk,GStep.after,hc]
  rw[this];exact⟨_,cQ,dX,λe he=>fU e (mem_seen he),rfl,rfl,rfl⟩
 ·exact hq.elim
noncomputable def te:Code:=f188.body.getD .skip
noncomputable def Ei:Array Oper:=bK (bM te)
noncomputable def KJ:Code:=dL (aQ te)
def M8:te=.seq (.region 0 Ei false) (.block 0 KJ):=ah
def Ad:Frame:={(default:Frame)with fn:=188,kind:=.deferred}
def TL:∃ps af,Ei[0]? =some {dst:=some 5,op:=.call ⟨.builtin .recover,#[],#[]⟩,type:=20,pos:=ps,after:=af,guard:=none}:=⟨_,_,by simp only[Ei,te,f188,Option.getD_some,bM,bK];rfl⟩
def aap{b3 b4:Nat}(hc:c.mode=.returning):
 ax E (G (Frame.enter prog 188 #[pV b3,pV b4] .deferred) (c::cs)) σ λg τ=>g=G c cs/\τ=σ:=by
 have oK:Frame.enter prog 188 #[pV b3,pV b4] .deferred=Ad.at {tmps:=#[pV b3,pV b4]++Array.replicate 11 undef,defers:=[]} [.code te]:=by simp[Frame.enter,Frame.at,func188,Ad,f188,te]
 rw[oK,M8];have ha:=rV #[pV b3,pV b4] 13 al;refine ax.ctl (λw=>stepG_seq) rfl rfl ?_;refine ax.ctl (λw=>stepG_region) rfl rfl ?_;have hr:List.range Ei.size=[0]:=ah;rw[hr];obtain⟨ps,af,ho⟩:=TL;refine ax.step rfl (aoD ho rfl rfl hc) ?_;rintro g τ ⟨rfl,rfl⟩;have da:cJ 13 _ _ []:=ha.put (dst:=some 5) ai .nilIface;refine ax.ctl (λw=>stepG_region_end) rfl rfl ?_;refine(np (E:=E) (N:=13) (X:=λρ ds cC=>ds=[]/\cC=τ) ?_ (by simp[Ad]) da).bind ?_
 ·simp only[KJ,te,f188,Option.getD_some,aQ,dL];simp only[go_sem,seval,aB,up];exact⟨rfl,rfl⟩
 rintro g cC ⟨lR,_,a2,gp,⟨rfl,rfl⟩,rfl⟩;refine ax.ctl (λw=>stepG_end) rfl rfl ?_;refine ax.step rfl (aoy (fn:=f188) rfl gp.defers rfl hc func188 ah) ?_;rintro g nE ⟨rfl,rfl⟩;exact ax.here ⟨rfl,rfl⟩
variable {E:Env P}
def aao{t:Operand}(ht:ak ρ t=.func (.func df) #[] caps)(h:nx (aB ρ dst undef) (gl df caps::ds) σ):aT E ⟨dst,.defer ⟨.value t,#[],cg⟩,ty,pos,af,g⟩ ρ ds σ nx pn:=by show wpOp E _ ρ ds σ nx pn;unfold wpOp;simp only[execOp,resolve,Deferred.ofValue,ht,aH,bq];have e1:(#[]++Array.map (ak ρ) #[]:Array Value)= #[]:=al;rw[e1];exact h
def A7{b:Nat}(h:τ.f b=some (.cells #[v] e (0,0))):iQ prog 45 ⟨b,0,none⟩ τ=some v:=by unfold iQ;rw[if_neg (by rw[VT];simp)];simp[Hp.cell?,h]
variable {E:Env prog}{c:Nat}{u:Un}
def apA{R:Hp->Prop}(hg:u.jT=false)(hw:u.fR=false)(hk:u.kind≠8)(Cs:ay E 107 #[pV c,uV u] σ λe τ=>e=.returned (.tuple #[])/\R τ):
 ay E 59 #[pV c,uV u] σ λe τ=>e=.returned (.tuple #[])/\R τ:=by
 refine aW func59 ntmps59 results59 λQ aC an aA=>?_;simp only[uV]at Cs;simp only[go_sem,seval,uV];refineλb3 gN=>?_;have hle:∀o,σ.le (σ.set b3 o):=λo x p h=>by rw[Hp.az (bp h gN)];exact h
 have c8:¬u.kind=8:=hk;refine bO hg hw c8 ?_;rw[hg,hw]at Cs;refine aL (Cs.ik (hle _)) ?_;rintro v τ ⟨hv,hR⟩
 cases hv
 refine ag ?_;exact aC du ao ⟨rfl,hR⟩
def apz(hg:u.jT=false)(hw:u.fR=false)(hk:u.kind=8):
 ay E 59 #[pV c,uV u] σ λe τ=>e=.returned (.tuple #[])/\τ=σ:=by
 refine fI func59 ntmps59 results59 rfl al λQ aC an aA=>?_;simp only[go_sem,seval,uV];refineλb3 gN=>?_;have hle:∀o,σ.le (σ.set b3 o):=λo x p h=>by rw[Hp.az (bp h gN)];exact h
 simp only[go_sem,seval,hg,hw,hk,decide_true];exact aC (τ:=σ) du (hle _) ⟨rfl,rfl⟩
def apB{g k1 k2 k3:Nat}{id:Int}(pI:u.jT=true)(hw:u.fR=false)(hg:σ.f g=some (eE cfg br mc clock last))(hc:σ.f c=some (fi g id chm cr))(e1:cfg.jc=k1)(e2:cfg.frame=k2)(e3:cfg.gh=k3)(l1:k1<100000)(l2:k2<100000)(l3:k3<100000)(fN:cr.out.length<=100000000000000):
 ay E 59 #[pV c,uV u] σ λe τ=>e=.returned (.tuple #[])/\τ=σ.set c (fi g id chm {cr with ph:=1,out:=cr.out++ck 0 10 30 [.short k1,.long k2,.short k3],gV:=clock}):=by
 refine fI func59 ntmps59 results59 rfl al λQ aC an aA=>?_;have uq:¬g=c:=bp hc hg (by simp[eE,fi]);have cA:=hc;have eX:=hg;simp only[fi,CR.vals]at cA;simp only[eE,e1,e2,e3]at eX;simp only[go_sem,seval,uV];refineλb3 gN=>?_;have nb:∀{x o},σ.f x=some o->¬x=b3:=λh e=>by subst e;rw[gN]at h;cases h
 have lc:∀o,(σ.set b3 o).f c=_:=λo=>(Hp.az (nb cA)).trans cA;have lg:∀o,(σ.set b3 o).f g=_:=λo=>(Hp.az (nb eX)).trans eX;have vO:∀(H:Hp) (o:Obj),(H.set c o).f c=some o:=λ_ _=>Hp.bD _ _;have Lf:∀o o',((σ.set b3 o).set c o').f g=_:=λo o'=>(Hp.az uq).trans (lg o);refine bO pI hw lc ?_;refine bG 30 ?_;refine bt vO Lf ?_;refineλba gO=>?_;have GX:¬c=ba:=bp gO aY;have nga:¬g=ba:=λe=>by subst e;rw[Lf]at gO;cases gO
 have Sm:∀(H:Hp) (o o':Obj),((H.set c o).set ba o').f c=some o:=λ_ _ _=>(Hp.az GX).trans aY;have Ss:∀o o' bU,(((σ.set b3 o).set c o').set ba bU).f g=_:=λo o' bU=>(Hp.az nga).trans (Lf o o');refine⟨iP Sm Ss,?_⟩;refine ag ?_;refine aR (Hc (g:=g) (id:=id) (chm:=chm) (cr:={cr with ph:=1}) (ch:=0) (cl:=10) (me:=30) (xs:=[.short k1,.long k2,.short k3]) (cfg:=cfg) (br:=br) (mc:=mc) (clock:=clock) (last:=last) ?_ (Sm _ _ _) (.inr ⟨ba,rfl,aY⟩) ?_ al ai ai ai ?_ (by show cr.out.length<=_;omega)) ?_
 ·rw[Ss];simp[eE,e1,e2,e3]
 ·simp[kH];omega
 ·simp[cW,ep,bV]
 refine fO ?_;refine ag ?_;refine aC (τ:=(σ.set c (fi g id chm {cr with ph:=1,out:=cr.out++ck 0 10 30 [.short k1,.long k2,.short k3],gV:=clock}))) du ?_ ⟨rfl,rfl⟩;intro x o hx;by_cases e:x=c
 ·subst e;rw[Hp.bD]at hx|-;exact hx
 ·rw[Hp.az e]at hx;have h5:∀o,(σ.set b3 o).f x=_:=λo=>(Hp.az (nb hx)).trans hx;have:x≠ba:=λe'=>by subst e';rw[Hp.az e,h5]at gO;cases gO
  rw[Hp.az e,Hp.az this,Hp.az e];exact h5 _
def ajp(c1:¬cfg.jc<1)(c2:¬cfg.jc>8)(c3:¬cfg.frame<64)(c4:¬cfg.frame>4096)(c5:¬cfg.gh<0)(c6:¬cfg.gh>50)(c7:¬cfg.queue<1)(c8:¬cfg.queue>50)(c9:¬cfg.body<0)(YC:¬cfg.body>10000):
 ay E 32 #[.agg cfg.vals.toArray] σ λe τ=>∃g br mq mc,e=.returned (.tuple #[pV g,.nilIface])/\σ.f g=none/\σ.f br=none/\σ.f mq=none/\σ.f mc=none/\br≠mq/\mc≠mq/\mc≠br/\g≠mq/\g≠br/\g≠mc/\
  τ=(((σ.set mq (aU bR [] 0)).set br (gZ mq cfg.queue 0 0)).set mc (aU aV [] 0)).set g (eE cfg br mc 0 0):=by
 refine aW func32 ntmps32 results32 λQ aC an aA=>?_;simp only[go_sem,seval,jA.vals];refineλb1 iM=>?_;have lb:∀(H:Hp) (o:Obj),(H.set b1 o).f b1=some o:=λ_ _=>Hp.bD _ _;simp only[go_sem,seval,lb,c1,c2,c3,c4,c5,c6,c7,c8,c9,YC];refine MT 3 4 [0,1,2,3,4,5,6,7,8] [0,1,2,4,3,5,6,7,8] (λ_ _ _=>False) ah ir (λ_ _ _ _ h=>h.elim) ?_ ?_<;>simp only[gY,List.modify_toArray,List.modify_succ_cons,List.modify_zero_cons]
 ·refine aG lb ?_;refine aL S4 ?_;rintro v τ ⟨br,mq,hv,vw,Ls,qw,rfl⟩
  cases hv
  have SP:¬b1=mq:=bp vw aY;have SO:¬b1=br:=bp qw aY;rw[Hp.az (λe=>SP e.symm)]at vw;rw[Hp.az (λe=>SO e.symm)]at qw;have l1:∀o o' bU,(((σ.set b1 o).set mq o').set br bU).f b1=some o:=λo o' bU=>(Hp.az SO).trans ((Hp.az SP).trans aY);refine⟨dG l1,?_⟩;refine ag ?_;refineλmc mO=>?_;have S0:¬mc=br:=bp mO aY;rw[Hp.az S0]at mO;have D5:¬mc=mq:=bp mO aY;rw[Hp.az D5]at mO;have D4:¬mc=b1:=bp mO aY;rw[Hp.az D4]at mO;have l2:∀o o' bU o3,((((σ.set b1 o).set mq o').set br bU).set mc o3).f b1=some o:=λo o' bU o3=>(Hp.az (λe=>D4 e.symm)).trans (l1 o o' bU);refine⟨dG l2,?_⟩;refine ag ?_;refine⟨dG l2,?_⟩;refine ag ?_;refineλg hg=>?_;have uq:¬g=mc:=bp hg aY;rw[Hp.az uq]at hg;have D7:¬g=br:=bp hg aY;rw[Hp.az D7]at hg;have D8:¬g=mq:=bp hg aY;rw[Hp.az D8]at hg;have D6:¬g=b1:=bp hg aY;rw[Hp.az D6]at hg;have l3:∀o o' bU o3 o4,(((((σ.set b1 o).set mq o').set br bU).set mc o3).set g o4).f b1=some o:=λo o' bU o3 o4=>(Hp.az (λe=>D6 e.symm)).trans (l2 o o' bU o3);refine⟨dG l3,?_⟩;refine ag ?_;refine an (τ:=((((σ.set mq (aU bR [] 0)).set br (gZ mq cfg.queue 0 0)).set mc (aU aV [] 0)).set g (eE cfg br mc 0 0))) iT ?_ ⟨g,br,mq,mc,?_,hg,qw,vw,mO,Ls,D5,S0,D8,D7,uq,rfl⟩
  ·exact gW (gW (gW (gW (λx p h=>by rw[Hp.az (bp h iM)];exact h) _ _) _ _) _ _) _ _
  ·simp[up]
 ·refine aG lb ?_;refineλmc mO=>?_;have D4:¬mc=b1:=bp mO aY;rw[Hp.az D4]at mO;have l0:∀o o',((σ.set b1 o).set mc o').f b1=some o:=λo o'=>(Hp.az (λe=>D4 e.symm)).trans aY;refine⟨dG l0,?_⟩;refine ag ?_;refine aL S4 ?_;rintro v τ ⟨br,mq,hv,vw,Ls,qw,rfl⟩
  cases hv
  have LH:¬mq=mc:=bp vw aY;rw[Hp.az LH]at vw;have Tb:¬mq=b1:=bp vw aY;rw[Hp.az Tb]at vw;have D3:¬br=mc:=bp qw aY;rw[Hp.az D3]at qw;have SY:¬br=b1:=bp qw aY;rw[Hp.az SY]at qw;have l1:∀o o' bU o3,((((σ.set b1 o).set mc o').set mq bU).set br o3).f b1=some o:=λo o' bU o3=>(Hp.az (λe=>SY e.symm)).trans ((Hp.az (λe=>Tb e.symm)).trans (l0 o o'));refine⟨dG l1,?_⟩;refine ag ?_;refine⟨dG l1,?_⟩;refine ag ?_;refineλg hg=>?_;have D7:¬g=br:=bp hg aY;rw[Hp.az D7]at hg;have D8:¬g=mq:=bp hg aY;rw[Hp.az D8]at hg;have uq:¬g=mc:=bp hg aY;rw[Hp.az uq]at hg;have D6:¬g=b1:=bp hg aY;rw[Hp.az D6]at hg;have l3:∀o o' bU o3 o4,(((((σ.set b1 o).set mc o').set mq bU).set br o3).set g o4).f b1=some o:=λo o' bU o3 o4=>(Hp.az (λe=>D6 e.symm)).trans (l1 o o' bU o3);refine⟨dG l3,?_⟩;refine ag ?_
  have JP:∀(H:Hp) (o o' bU:Obj),(((H.set mc o).set mq o').set br bU)=(((H.set mq o').set br bU).set mc o):=by intro H o o' bU;rw[Hp.set_comm (a:=mc) (b:=mq) (λe=>LH e.symm),Hp.set_comm (a:=mc) (b:=br) (λe=>D3 e.symm)]
  refine an (τ:=((((σ.set mq (aU bR [] 0)).set br (gZ mq cfg.queue 0 0)).set mc (aU aV [] 0)).set g (eE cfg br mc 0 0))) iT ?_ ⟨g,br,mq,mc,?_,hg,qw,vw,mO,Ls,(λe=>LH e.symm),(λe=>D3 e.symm),D8,D7,uq,rfl⟩
  ·rw[JP];exact gW (gW (gW (gW (λx p h=>by rw[Hp.az (bp h iM)];exact h) _ _) _ _) _ _) _ _
  ·simp[up]
end Go.Qw
