/- Part 22. -/
import Derived.Test.YtpiabknabfbfhaaGreatDoorFairly21
set_option linter.all false
set_option maxRecDepth 100000
set_option maxHeartbeats 8000000
namespace Go.Qw
open Go Go.Conc Go.Proofs
def Hid.jv(H:Hid)(nm:List UInt8)(v:Value):Hid:={H with rv:=λx=>if x=nm then v else H.rv x}
def Hid.oZ(H:Hid)(nm:List UInt8)(v:Value):Hid:={H with cv:=λx=>if x=nm then v else H.cv x}
def Hid.uC(H:Hid)(id:Int)(b:Nat):Hid:={H with chm:=λx=>if x=id then b else H.chm x}
def Apart(w:Ref->Option V)(ad:Ref->Nat)(r:Ref)(b:Nat):Prop:=∀r',r'≠r->(w r').isSome->ad r'≠b
variable {w:Ref->Option V}{ad:Ref->Nat}{σ:Hp}
def Hl.apart(h:Hl w ad σ)(r:Ref)(hr:(w r).isSome):Apart w ad r (ad r):=λr' aE hs e=>aE (h.inj r' r hs hr e)
def Hl.tk(h:Hl w ad σ)(r:Ref){b:Nat}(hb:σ.f b=none):Apart w ad r b:=λr' _ hs e=>by obtain⟨u,hu⟩:=Option.isSome_iff_exists.1 hs;obtain⟨o',h1,_⟩:=h.has r' u hu;rw[e,hb]at h1;cases h1
section
variable {H:Hid}{n:N}{X:Ext}{σ:Hp}{nm:List UInt8}{c:CN}{h:HN}{q:QN}{k:Int}{x:XN}{o:Obj}{b:Nat}
variable {A:Lay}{id:Int}
def aja {v:Value}{ms:List aX}(h:gB σ ms v)(hn:kC v=false):∃o,σ.f (po v)=some o/\oo (.eP v ms) o:=by
 cases h with
 |none e=>cases hn
 |«at»a pre pad c h1 h2 h3=>exact⟨_,h3,a,pre,pad,c,rfl,h1,h2,rfl⟩
def TV (hq:n.q? nm=some q)(hn:kC (H.rv nm)=false):view n A H X (.eP nm)=some (.eP (H.rv nm) q.ready):=by simp[view,hq,zq,hn]
def OV (hq:n.q? nm=some q)(hn:kC (H.cv nm)=false):view n A H X (.hU nm)=some (.hU (H.cv nm) (q.cons.map λk=>pV (A.cons k))):=by simp[view,hq,Cc,hn]
def aq.Me (a:aq A H n X σ)(hq:n.q? nm=some q){rv:Value}(f:QN->QN)(hf:(f q).cons=q.cons)(hb:Apart (view n A H X) (cD A H X) (.eP nm) b)(ho:oo (.eP rv (f q).ready) o)(CO:po rv=b):
 aq A (H.jv nm rv) (n.bL nm f) X ((σ.set b o).set (A.queue nm) (fw nm rv (f q).held (f q).last (H.cv nm))):=by
 have h1:=Hl.put a hb ho;have h2:=Hl.uE h1 (r:=.queue nm) (by simp[upd,view,hq]) (fw nm rv (f q).held (f q).last (H.cv nm));have e2:upd (cD A H X) (.eP nm) b (.queue nm)=A.queue nm:=by simp[upd,cD]
 rw[e2]at h2
 have pK:¬(kC rv=true/\(f q).ready=[]):=by rintro⟨e,_⟩;obtain⟨_,_,_,_,e2,_⟩:=ho;rw[GJ e]at e2;simp at e2
 refine Hl.congr h2 (λr=>?_) (λr hr=>?_)
 ·cases r
  case queue i=>by_cases e:i=nm<;>simp[view,upd,e,hq,Hid.jv]
  case eP i=>by_cases e:i=nm<;>simp[view,upd,e,hq,Hid.jv,zq,pK]
  case hU i=>by_cases e:i=nm<;>simp[view,upd,e,hq,Hid.jv,hf]
  case mq=>simp only[view,upd,N.bL,reduceCtorEq,if_false];rw[ow _ _ _ λi=>(i,pV (A.queue i))]
  all_goals simp[view,upd]<;>rfl
 ·cases r
  case eP i=>by_cases e:i=nm<;>simp[cD,upd,e,CO,Hid.jv]
  all_goals simp[cD,upd]<;>rfl
def aq.aj0 (a:aq A H n X σ)(hq:n.q? nm=some q)(f:QN->QN)(hf:(f q).cons=q.cons)(hr:(f q).ready=[]):
 aq A (H.jv nm (.slice none 0 0)) (n.bL nm f) X (σ.set (A.queue nm) (fw nm (.slice none 0 0) (f q).held (f q).last (H.cv nm))):=by
 have h1:=Hl.sub (w':=upd (view n A H X) (.eP nm) none) a (λr=>by by_cases e:r=.eP nm<;>simp[upd,e]);have h2:=Hl.uE h1 (r:=.queue nm) (by simp[upd,view,hq]) (fw nm (.slice none 0 0) (f q).held (f q).last (H.cv nm));refine Hl.congr h2 (λr=>?_) (λr bY=>?_)
 ·cases r
  case queue i=>by_cases e:i=nm<;>simp[view,upd,e,hq,Hid.jv]
  case eP i=>
   by_cases e:i=nm
   ·simp[view,upd,e,hq,Hid.jv,zq,kC,hr]
   ·simp[view,upd,e,Hid.jv]
  case hU i=>by_cases e:i=nm<;>simp[view,upd,e,hq,Hid.jv,hf]
  case mq=>simp only[view,upd,N.bL,reduceCtorEq,if_false];rw[ow _ _ _ λi=>(i,pV (A.queue i))]
  all_goals simp[view,upd]<;>rfl
 ·cases r
  case eP i=>
   by_cases e:i=nm
   ·subst e;simp[view,hq,Hid.jv,zq,kC,hr]at bY
   ·simp[cD,e,Hid.jv]
  all_goals simp[cD]<;>rfl
def aq.ahH (a:aq A H n X σ)(hq:n.q? nm=some q){rv:Value}(f:QN->QN)(hf:(f q).cons=q.cons)(hn:kC (H.rv nm)=false)(Df:kC rv=false)(hm:gB σ (f q).ready rv)(hb:po rv=po (H.rv nm)):
 aq A (H.jv nm rv) (n.bL nm f) X (σ.set (A.queue nm) (fw nm rv (f q).held (f q).last (H.cv nm))):=by
 obtain⟨o,h1,h2⟩:=aja hm Df;have:=a.Me hq (b:=po rv) f hf (by rw[hb];exact Hl.apart a (.eP nm) (by rw[TV hq hn];rfl)) h2 rfl;rwa[Gn h1]at this
def aq.Uj (a:aq A H n X σ)(hq:n.q? nm=some q){cv:Value}(f:QN->QN)(hf:(f q).ready=q.ready)(hb:Apart (view n A H X) (cD A H X) (.hU nm) b)(ho:oo (.hU cv ((f q).cons.map λk=>pV (A.cons k))) o)(CO:po cv=b):
 aq A (H.oZ nm cv) (n.bL nm f) X ((σ.set b o).set (A.queue nm) (fw nm (H.rv nm) (f q).held (f q).last cv)):=by
 have h1:=Hl.put a hb ho;have h2:=Hl.uE h1 (r:=.queue nm) (by simp[upd,view,hq]) (fw nm (H.rv nm) (f q).held (f q).last cv);have e2:upd (cD A H X) (.hU nm) b (.queue nm)=A.queue nm:=by simp[upd,cD]
 rw[e2]at h2
 have pK:¬(kC cv=true/\(f q).cons=[]):=by rintro⟨e,_⟩;obtain⟨_,_,e2,_⟩:=ho;rw[GJ e]at e2;simp at e2
 refine Hl.congr h2 (λr=>?_) (λr hr=>?_)
 ·cases r
  case queue i=>by_cases e:i=nm<;>simp[view,upd,e,hq,Hid.oZ]
  case hU i=>by_cases e:i=nm<;>simp[view,upd,e,hq,Hid.oZ,Cc,pK]
  case eP i=>by_cases e:i=nm<;>simp[view,upd,e,hq,Hid.oZ,hf]
  case mq=>simp only[view,upd,N.bL,reduceCtorEq,if_false];rw[ow _ _ _ λi=>(i,pV (A.queue i))]
  all_goals simp[view,upd]<;>rfl
 ·cases r
  case hU i=>by_cases e:i=nm<;>simp[cD,upd,e,CO,Hid.oZ]
  all_goals simp[cD,upd]<;>rfl
def aq.OZ (a:aq A H n X σ)(k:Int):aq A H {n with xs:=cF n.xs k} X σ:=
 Hl.sub a (λr=>by
  cases r
  case cons j=>
   by_cases e:j=k
   ·exact .inl (by simp[view,N.x?,BZ,e])
   ·exact .inr (by simp[view,N.x?,BZ,e])
  all_goals exact .inr rfl)
def aq.iH (a:aq A H n X σ)(hb:σ.f b=none)(o:Obj):aq A H n ((b,o)::X) (σ.set b o):=by
 have hd:∀r,(∃i,r=.ext i)\/(view n A H X r=view n A H ((b,o)::X) r/\cD A H X r=cD A H ((b,o)::X) r):=λr=>by cases r<;>first|exact .inr ⟨rfl,rfl⟩|exact .inl ⟨_,rfl⟩
 have aE:∀r v,view n A H X r=some v->cD A H X r≠b:=λr v hv e=>by obtain⟨o',h1,_⟩:=a.has r v hv;rw[e,hb]at h1;cases h1
 have es:∀i,view n A H ((b,o)::X) (.ext (i+1))=view n A H X (.ext i):=λi=>by simp[view]
 have ea:∀i,cD A H ((b,o)::X) (.ext (i+1))=cD A H X (.ext i):=λi=>by simp[cD]
 have e0:view n A H ((b,o)::X) (.ext 0)=some (.obj o):=by simp[view]
 have IM:cD A H ((b,o)::X) (.ext 0)=b:=by simp[cD]
 have key:∀r,r=.ext 0\/∃r',(r=r'/\(∀i,r≠.ext i)\/∃i,r=.ext (i+1)/\r'=.ext i)/\view n A H ((b,o)::X) r=view n A H X r'/\cD A H ((b,o)::X) r=cD A H X r':=by
  intro r;rcases hd r with⟨i,rfl⟩|⟨h1,h2⟩
  ·cases i with
   |zero=>exact .inl rfl
   |succ i=>exact .inr ⟨.ext i,.inr ⟨i,rfl,rfl⟩,es i,ea i⟩
  ·by_cases he:∃i,r=.ext i
   ·obtain⟨i,rfl⟩:=he
    cases i with
    |zero=>exact .inl rfl
    |succ i=>exact .inr ⟨.ext i,.inr ⟨i,rfl,rfl⟩,es i,ea i⟩
   ·exact .inr ⟨r,.inl ⟨rfl,λi e=>he ⟨i,e⟩⟩,h1.symm,h2.symm⟩
 refine⟨λr v hv=>?_,λr r' hr ig e=>?_⟩
 ·rcases key r with rfl|⟨r',_,h1,h2⟩
  ·rw[e0]at hv;cases hv
   exact⟨o,by rw[IM];exact Hp.bD _ _,rfl⟩
  ·rw[h1]at hv;rw[h2];obtain⟨o',k1,k2⟩:=a.has r' v hv;exact⟨o',by rw[Hp.az (aE r' v hv)];exact k1,k2⟩
 ·obtain⟨v,hv⟩:=Option.isSome_iff_exists.1 hr;obtain⟨v',Gz⟩:=Option.isSome_iff_exists.1 ig;rcases key r with rfl|⟨s,hs,h1,h2⟩<;>rcases key r' with rfl|⟨s',cQ,rf,kK⟩
  ·rfl
  ·rw[IM,kK]at e;rw[rf]at Gz;exact absurd e.symm (aE _ _ Gz)
  ·rw[IM,h2]at e;rw[h1]at hv;exact absurd e (aE _ _ hv)
  ·rw[h2,kK]at e;have:=a.inj s s' (by rw[<-h1];exact hr) (by rw[<-rf];exact ig) e;subst this;rcases hs with⟨rfl,g1⟩|⟨i,rfl,rfl⟩<;>rcases cQ with⟨rfl,g2⟩|⟨j,rfl,g3⟩
   ·rfl
   ·exact absurd g3 (g1 j)
   ·exact absurd rfl (g2 i)
   ·cases g3;rfl
def aq.oD {p:Nat×Obj}(a:aq A H n (p::X) σ):aq A H n X σ:=by
 have key:∀r,∃r',view n A H X r=view n A H (p::X) r'/\cD A H X r=cD A H (p::X) r'/\(r'=r/\(∀i,r≠.ext i)\/∃i,r=.ext i/\r'=.ext (i+1)):=by
  intro r;by_cases he:∃i,r=.ext i
  ·obtain⟨i,rfl⟩:=he;exact⟨.ext (i+1),by simp[view],by simp[cD],.inr ⟨i,rfl,rfl⟩⟩
  ·refine⟨r,?_,?_,.inl ⟨rfl,λi e=>he ⟨i,e⟩⟩⟩<;>cases r<;>first|rfl|exact absurd ⟨_,rfl⟩ he
 refine⟨λr v hv=>?_,λr s hr hs e=>?_⟩
 ·obtain⟨r',h1,h2,_⟩:=key r;rw[h2];exact a.has r' v (by rw[<-h1];exact hv)
 ·obtain⟨r',h1,h2,h3⟩:=key r;obtain⟨s',g1,g2,g3⟩:=key s;have:=a.inj r' s' (by rw[<-h1];exact hr) (by rw[<-g1];exact hs) (by rw[<-h2,<-g2];exact e);subst this;rcases h3 with⟨rfl,f1⟩|⟨i,rfl,rfl⟩<;>rcases g3 with⟨rfl,f2⟩|⟨j,rfl,e2⟩
  ·rfl
  ·exact absurd e2 (f1 _)
  ·exact absurd rfl (f2 _)
  ·cases e2;rfl
def aq.zE (a:aq A H n X σ){i:Nat}{p:Nat×Obj}(hi:X[i]? =some p)(o:Obj):aq A H n (X.set i (p.1,o)) (σ.set p.1 o):=by
 have hl:i<X.length:=(List.getElem?_eq_some_iff.1 hi).1;have e:cD A H X (.ext i)=p.1:=by simp[cD,hi]
 have h1:=Hl.uE a (r:=.ext i) (by simp[view,hi]) o;rw[e]at h1;refine Hl.congr h1 (λr=>?_) (λr hr=>?_)
 ·cases r
  case ext j=>
   by_cases e:i=j
   ·subst e;simp[view,upd,hl]
   ·have:¬Ref.ext j=.ext i:=λx=>e (by cases x;rfl);simp[view,upd,List.getElem?_set_ne e,this]
  all_goals simp[view,upd]
 ·cases r
  case ext j=>
   by_cases e:i=j
   ·subst e;obtain⟨_,e⟩:=List.getElem?_eq_some_iff.1 hi;simp[cD,hl,e]
   ·simp[cD,List.getElem?_set_ne e]
  all_goals simp[cD]
def aq.uD {p:Nat×Obj}(a:aq A H n (p::X) σ)(o:Obj):aq A H n ((p.1,o)::X) (σ.set p.1 o):=a.zE (i:=0) rfl o
end
variable {n:N}{no:Nat}{nm:List UInt8}{h:HN}{q:QN}{k:Int}{x:XN}
structure Wf (n:N):Prop where
 un:∀id no h,n.h? id no=some h->∀e∈h.un,(n.q? e.2.1).isSome
 xq:∀k x,n.x? k=some x->(n.q? x.q).isSome
 xh:∀k x,n.x? k=some x->∃h,n.h? x.id x.no=some h/\bu h.co x.tag=some k
 co:∀id no h,n.h? id no=some h->∀e∈h.co,∃x,n.x? e.2=some x/\x.id=id/\x.no=no/\x.tag=e.1
 qc:∀nm q,n.q? nm=some q->∀k∈q.cons,∃x,n.x? k=some x/\x.q=nm
section
variable {H:Hid}{n:N}{X:Ext}{σ:Hp}{no:Nat}{nm:List UInt8}{c:CN}{h:HN}{q:QN}{k:Int}{x:XN}{o:Obj}{b:Nat}{A':Lay}{H':Hid}
variable {A:Lay}{id:Int}
def ahQ {id:Int}{c:CN}(h:(id,c)∈n.aF):(n.ar id).isSome:=by
 cases e:n.ar id with
 |none=>exact absurd rfl (iK e _ h)
 |some _=>rfl
def ahP {no:Nat}{h:HN}{c:CN}(hc:n.ar id=some c)(hm:(no,h)∈c.ch):(n.h? id no).isSome:=by
 unfold N.h?;rw[hc,Option.bind_some]
 cases e:bu c.ch no with
 |none=>exact absurd rfl (iK e _ hm)
 |some _=>rfl
def xx {nm:List UInt8}{q:QN}(h:(nm,q)∈n.aN):(n.q? nm).isSome:=by
 cases e:n.q? nm with
 |none=>exact absurd rfl (iK e _ h)
 |some _=>rfl
structure M6 (n:N) (A A':Lay) (H H':Hid):Prop where
 gw:A'.gw=A.gw
 br:A'.br=A.br
 mq:A'.mq=A.mq
 mc:A'.mc=A.mc
 l1:A'.L1=A.L1
 conn:∀id,(n.ar id).isSome->A'.conn id=A.conn id/\H'.chm id=H.chm id
 chan:∀id no,(n.h? id no).isSome->A'.chan id no=A.chan id no/\A'.un id no=A.un id no/\A'.co id no=A.co id no
 queue:∀nm,(n.q? nm).isSome->A'.queue nm=A.queue nm/\H'.rv nm=H.rv nm/\H'.cv nm=H.cv nm
 cons:∀k,(n.x? k).isSome->A'.cons k=A.cons k
def ads (hh:n.h? id no=some h):(n.ar id).isSome:=by obtain⟨c,hc⟩:=wZ hh;rw[hc];rfl
def aq.He (a:aq A H n X σ)(w:Wf n)(g:M6 n A A' H H'):aq A' H' n X σ:=by
 have hv:∀r,view n A' H' X r=view n A H X r:=by
  intro r
  cases r with
  |b0|ext=>rfl
  |b1=>simp[view,g.l1]
  |gw=>simp[view,g.br,g.mc]
  |br=>simp[view,g.mq]
  |mq=>simp only[view];congr 2;exact List.map_congr_left λe he=>by rw[(g.queue e.1 (xx he)).1]
  |mc=>simp only[view];congr 2;exact List.map_congr_left λe he=>by rw[(g.conn e.1 (ahQ he)).1]
  |conn id=>simp only[view];cases hc:n.ar id with
   |none=>rfl
   |some c=>simp[g.gw,(g.conn id (by rw[hc];rfl)).2]
  |chm id=>simp only[view];cases hc:n.ar id with
   |none=>rfl
   |some c=>simp only[Option.map_some];congr 2;exact List.map_congr_left λe he=>by rw[(g.chan id e.1 (ahP hc he)).1]
  |chan id no=>simp only[view];cases hh:n.h? id no with
   |none=>rfl
   |some h=>obtain⟨_,e2,e3⟩:=g.chan id no (by rw[hh];rfl);simp[e2,e3,(g.conn id (ads hh)).1]
  |un id no=>simp only[view];cases hh:n.h? id no with
   |none=>rfl
   |some h=>simp only[Option.map_some];congr 2;exact List.map_congr_left λe he=>by rw[(g.queue e.2.1 (w.un id no h hh e he)).1]
  |co id no=>simp only[view];cases hh:n.h? id no with
   |none=>rfl
   |some h=>simp only[Option.map_some];congr 2;exact List.map_congr_left λe he=>by obtain⟨x,hx,_⟩:=w.co id no h hh e he;rw[g.cons e.2 (by rw[hx];rfl)]
  |queue nm=>simp only[view];cases hq:n.q? nm with
   |none=>rfl
   |some q=>obtain⟨_,e2,e3⟩:=g.queue nm (by rw[hq];rfl);simp[e2,e3]
  |eP nm=>simp only[view];cases hq:n.q? nm with
   |none=>rfl
   |some q=>obtain⟨_,e2,e3⟩:=g.queue nm (by rw[hq];rfl);simp[e2]
  |hU nm=>simp only[view];cases hq:n.q? nm with
   |none=>rfl
   |some q=>
    obtain⟨_,e2,e3⟩:=g.queue nm (by rw[hq];rfl);have:(q.cons.map λk=>pV (A'.cons k))=q.cons.map λk=>pV (A.cons k):=List.map_congr_left λk hk=>by obtain⟨x,hx,_⟩:=w.qc nm q hq k hk;rw[g.cons k (by rw[hx];rfl)]
    simp[e3,this]
  |cons k=>simp only[view];cases hx:n.x? k with
   |none=>rfl
   |some x=>obtain⟨h,hh,_⟩:=w.xh k x hx;simp[(g.chan x.id x.no (by rw[hh];rfl)).1,(g.queue x.q (w.xq k x hx)).1]
 refine Hl.congr a hv (λr hr=>?_);have nn:∀{α O:Type} {o:Option α} {f:α->O},(o.map f).isSome->o.isSome:=λh=>by simpa using h
 have nb:∀{α O:Type} {o:Option α} {f:α->Option O},(o.bind f).isSome->o.isSome:=λ{α O o f} h=>by cases o with|none=>cases h|some=>rfl
 cases r with
 |b0|b1|ext=>rfl
 |gw=>exact g.gw
 |br=>exact g.br
 |mq=>exact g.mq
 |mc=>exact g.mc
 |conn id=>exact(g.conn id (nn hr)).1
 |chm id=>exact(g.conn id (nn hr)).2
 |chan id no=>exact(g.chan id no (nn hr)).1
 |un id no=>exact(g.chan id no (nn hr)).2.1
 |co id no=>exact(g.chan id no (nn hr)).2.2
 |queue nm=>exact(g.queue nm (nn hr)).1
 |eP nm=>simp only[cD];rw[(g.queue nm (nb hr)).2.1]
 |hU nm=>simp only[cD];rw[(g.queue nm (nb hr)).2.2]
 |cons k=>exact g.cons k (nn hr)
def Lay.sZ (A:Lay)(nm:List UInt8)(b:Nat):Lay:={A with queue:=λx=>if x=nm then b else A.queue x}
def Ml {α O:Type}[DecidableEq α]{f:α->Option O}{a x:α}(h:f a=none)(hx:(f x).isSome):¬x=a:=λe=>by subst e;rw[h]at hx;cases hx
def aq.aju (a:aq A H n X σ)(w:Wf n)(hq:n.q? nm=none)(hb:σ.f b=none)(ho:oo (.xC ((cV cL n.aN nm ⟨[],0,0,[]⟩).map λe=>(e.1,pV ((A.sZ nm b).queue e.1)))) o):
 aq (A.sZ nm b) ((H.jv nm (.slice none 0 0)).oZ nm (.slice none 0 0)) {n with aN:=cV cL n.aN nm ⟨[],0,0,[]⟩} X ((σ.set b (fw nm (.slice none 0 0) 0 0 (.slice none 0 0))).set A.mq o):=by
 have h0:=a.He w (A':=A.sZ nm b) (H':=(H.jv nm (.slice none 0 0)).oZ nm (.slice none 0 0)) ⟨rfl,rfl,rfl,rfl,rfl,λ_ _=>⟨rfl,rfl⟩,λ_ _ _=>⟨rfl,rfl,rfl⟩,λx hx=>by simp[Lay.sZ,Hid.jv,Hid.oZ,Ml (f:=n.q?) hq hx],λ_ _=>rfl⟩;have h1:=Hl.put h0 (r:=.queue nm) (b:=b) (v:=.obj (fw nm (.slice none 0 0) 0 0 (.slice none 0 0))) (Hl.tk h0 _ hb) (_root_.id rfl)
 have e1:upd (cD (A.sZ nm b) ((H.jv nm (.slice none 0 0)).oZ nm (.slice none 0 0)) X) (.queue nm) b=cD (A.sZ nm b) ((H.jv nm (.slice none 0 0)).oZ nm (.slice none 0 0)) X:=by
  funext r;unfold upd;split
  ·rename_i e;subst e;simp[cD,Lay.sZ]
  ·rfl
 rw[e1]at h1;have h2:=Hl.set h1 (r:=.mq) (by simp[upd,view]) ho;refine Hl.congr h2 (λr=>?_) (λ_ _=>rfl);have qG:∀i,N.q? {n with aN:=cV cL n.aN nm ⟨[],0,0,[]⟩} i=if i=nm then some ⟨[],0,0,[]⟩else n.q? i:=λi=>yn _ _ _ _ hq
 cases r
 case queue i=>by_cases e:i=nm<;>simp[view,upd,e,qG,Hid.jv,Hid.oZ]
 case eP i=>
  by_cases e:i=nm
  ·subst e;simp[view,upd,qG,hq,Hid.jv,Hid.oZ,zq,kC]
  ·simp[view,upd,e,qG]
 case hU i=>
  by_cases e:i=nm
  ·subst e;simp[view,upd,qG,hq,Hid.jv,Hid.oZ,Cc,kC]
  ·simp[view,upd,e,qG]
 all_goals simp[view,upd]<;>rfl
def Lay.BA (A:Lay)(k:Int)(b:Nat):Lay:={A with cons:=λx=>if x=k then b else A.cons x}
end
@[go_sem] def ar7{x:Array Operand}{a:Array TypeId}:cT (.call ⟨.builtin .copy,x,a⟩)=false:=bl
variable {P:Program}{n:Nat}
def aip{v:Value}(h:sN v=some n){Q:Nat->Hp->Prop}{H:Halt->Hp->Prop}(k:Q n σ):wpS P (Builtin.lenOf v) Q H σ:=by cases v<;>first|(simp only[sN,Option.some.injEq]at h;subst h;exact k)|cases h
variable {E:Env P}{ρ:av}{ds:List Deferred}{dst:Option Tmp}{ty:TypeId}{pos:String}{af:Array Edge}{g:Option (Nat×Bool)}{nx:av->List Deferred->Hp->Prop}{pn:List PanicEntry->Hp->Prop}{t u:TypeId}{x y:Operand}{b off:Nat}{e:TypeId}{L:List Value}
def Fp(el:ou P t){dl dc k:Nat}{new:List Value}(hx:ak ρ x=.slice (some ⟨b,off,none⟩) dl dc)(hn:sN (ak ρ y)=some k)(iF:iL σ el.z (Nat.min k dl) (ak ρ y)=some new.toArray)(hb:σ.f b=some (.cells L.toArray e (0,0)))(hle:off+new.length<=L.length)(kA:new.all de=true)(h:nx (aB ρ dst (goInt (Nat.min k dl))) ds (σ.set b (.cells (L.take off++new++L.drop (off+new.length)).toArray e (0,0)))):
 aT E ⟨dst,.call ⟨.builtin .copy,#[x,y],#[t,u]⟩,ty,pos,af,g⟩ ρ ds σ nx pn:=by
 have jq:=el.hu;obtain⟨i,zv,hi,hz,hzero,AY,eS⟩:=el.hi;show wpOp E _ ρ ds σ nx pn;unfold wpOp;simp only[execOp,resolve,aH,bq,invoke];show wpS P (do pure (Next.value (<-Builtin.copy_ #[t,u] ty (#[x,y].map (ak ρ)))):Sem Next) _ _ _;rw[lf];have e1: #[x,y].map (ak ρ)= #[.slice (some ⟨b,off,none⟩) dl dc,ak ρ y]:=by simp[hx]
 rw[e1];simp only[Builtin.copy_,List.getElem?_toArray,List.getElem?_cons_zero,List.getElem?_cons_succ,aH,dZ,jq];refine aip hn ?_;simp only[sizeOf,aH,fQ,hi,bq,hz];refine Co iF ?_;simp only[aH];refine EM (e:=e) (a:=⟨b,off,none⟩) rfl new 0 L.toArray σ _ hb (aZ hle) kA ?_
 have e2:(L.toArray.extract 0 (off+0)++new.toArray++L.toArray.extract (off+0+new.length) L.toArray.size:Array Value)=(L.take off++new++L.drop (off+new.length)).toArray:=by apply Array.ext';simp[List.take_of_length_le]
 rw[e2];exact h
variable {c:Nat}
def Wc(el:ou P t){base:Option Addr}{l:Nat}{k:IntKind}(hu:P.underlying u=some (.int k)){old:Array Value}(hx:ak ρ x=.slice base l c)(hy:ak ρ y=.int .i64 n)(KG:0<el.z)(AR:0<n)(hold:iL σ el.z l (.slice base l c)=some old)(fM:(2*(l+n)+192)*el.bytes<=2^48)(lY:0<el.bytes)(ae2:l+n<=4611686018427387904)(hc:c<l+n)(fN:∀b cap,σ.f b=none->l+n<=cap->nx (aB ρ dst (.slice (some ⟨b,0,none⟩) (l+n) cap)) ds (σ.set b (.cells (old++Builtin.zeroCells el.zero n++Builtin.zeroCells el.zero (cap-(l+n))) el.e))):
 aT E ⟨dst,.call ⟨.builtin .append,#[x,y],#[t,u]⟩,ty,pos,af,g⟩ ρ ds σ nx pn:=by
 have jq:=el.hu;obtain⟨i,zv,hi,hz,hzero,AY,hb⟩:=el.hi;have w1:IntKind.i64.wrap (n:Int)=n:=wrap64 aa aa
 have vz:(n:Int)*el.bytes<=2^48:=by
  have:n*el.bytes<=(2*(l+n)+192)*el.bytes:=Nat.mul_le_mul_right _ aa;have h2:n*el.bytes<=2^48:=Nat.le_trans this fM
  exact_mod_cast h2
 have hnz:¬n*el.z=0:=Nat.ne_of_gt (Nat.mul_pos AR KG);show wpOp E _ ρ ds σ nx pn;unfold wpOp;simp only[execOp,resolve,aH,bq,invoke];show wpS P (do pure (Next.value (<-Builtin.append_ #[t,u] ty (#[x,y].map (ak ρ)))):Sem Next) _ _ _;rw[lf];have e1: #[x,y].map (ak ρ)= #[.slice base l c,.int .i64 n]:=by simp[hx,hy]
 rw[e1];simp only[Builtin.append_,List.getElem?_toArray,List.getElem?_cons_zero,List.getElem?_cons_succ,aH,dZ,jq,sizeOf,fQ,hi,bq,hu];simp only[if_true,aH,asInt,asIntOf,bq,w1];have nn:¬(n:Int)<0:=aa;have n2:¬(n:Int)*(i.bytes:Int)>2^48:=by rw[hb];omega
 simp only[if_neg nn,aH,fQ,hi,if_neg n2,bq,Int.toNat_natCast,Bool.not_true,Bool.false_eq_true,if_false,hz,if_neg hnz];rw[if_neg (by omega:¬l+n<=c)];simp only[aH,fQ,hi,hb]
 rw[if_neg (by intro⟨h1,_⟩;have:IntKind.i64.max=9223372036854775807:=ai
               omega)]
 have Gi:=nextslicecap_le hc;simp only[aH,fQ,hi,hb];rw[if_neg (by have:=Nat.mul_le_mul_right el.bytes Gi;omega)];simp only[aH,HH];rw[if_neg (by simp[Question.forced])];intro tt;have AH:l+n<=(Question.appendCap (l+n) c el.e).cut tt:=by simp only[Question.cut];omega
 simp only[fQ,hi,askRoom]
 have fin:wpS P (do
  let old<-Builtin.firstCells el.z l (Value.slice base l c)
  let new<-(do pure (Builtin.zeroCells (<-zeroValue el.e).cells n):Sem (Array Value))
  let r<-zeroValue el.e
  let q<-newRow el.e (old++new++Builtin.zeroCells r.cells ((Question.appendCap (l+n) c el.e).cut tt-(l+n)))
  pure (Value.slice (some q) (l+n) ((Question.appendCap (l+n) c el.e).cut tt)))
  (λv σ=>pd (λv ae=>nx (aB ρ dst v) ds ae) (λd ae=>nx (aB ρ dst undef) (d::ds) ae)
   (λf args ae=>ay E f args ae (xI (λv ae=>nx (aB ρ dst v) ds ae) pn)) (Next.value v) σ)
  (rP λv ae=>pn [{v:=v,recovered:=false}] ae) σ:=by
  simp only[aH];refine Co hold ?_;simp only[zeroValue,aH,fQ,hi,hzero,bq,newRow,xW,AY];intro b cz;exact fN b _ cz AH
 simp only[aH]at fin;split
 ·simp only[MV];exact⟨rfl,fin⟩
 ·simp only[bq];exact fin
variable {op:BinOp}{a b:Option Addr}{m d:Nat}
@[go_sem] def ass:eO P op t (.slice a n c) (.slice b m d)=none:=by unfold eO;cases op<;>cases P.underlying t<;>first|rfl|(rename_i d;cases d<;>rfl)
@[go_sem] def asr:mY P op t x y (.slice a n c) (.slice b m d)=none:=by unfold mY;cases op<;>cases P.underlying t<;>first|rfl|(rename_i d;cases d<;>rfl)
@[go_sem] def aqO:cG op (.slice a n c) (.slice b m d)=none:=by cases op<;>rfl
def Ph(hu:P.underlying t=some (.slice e))(hx:ak ρ x=.slice b n c)(hy:ak ρ y=.slice none 0 0)(h:nx (aB ρ dst (.bool b.isNone)) ds σ):
 wpOp E ⟨dst,.binOp .eql t x y u,ty,pos,af,g⟩ ρ ds σ nx pn:=by
 unfold wpOp;simp only[execOp,hx,hy,aH];refine yy ?_ ⟨al,al⟩;unfold binOp;simp only[aH,bq];refine Cl λk=>?_;unfold Op.equalIn;simp only[aH,dZ,hu]
 cases b<;>exact h
def ZH(el:ou P t){b:Nat}{z0:Value}(hz:el.zero= #[z0])(RX:de z0=true)(hx:ak ρ x=.slice (some ⟨b,off,none⟩) n c)(hb:σ.f b=some (.cells L.toArray e (0,0)))(hle:off+n<=L.length)(h:nx (aB ρ dst (.tuple #[])) ds (σ.set b (.cells (L.take off++List.replicate n z0++L.drop (off+n)).toArray e (0,0)))):
 aT E ⟨dst,.call ⟨.builtin .clear,#[x],#[t]⟩,ty,pos,af,g⟩ ρ ds σ nx pn:=by
 have jq:=el.hu;obtain⟨i,zv,hi,gE,hzero,AY,eS⟩:=el.hi;show wpOp E _ ρ ds σ nx pn;unfold wpOp;simp only[execOp,resolve,aH,bq,invoke];show wpS P (do pure (Next.value (<-Builtin.clear_ #[t] ty (#[x].map (ak ρ)))):Sem Next) _ _ _;rw[lf];have e1: #[x].map (ak ρ)= #[.slice (some ⟨b,off,none⟩) n c]:=by simp[hx]
 rw[e1]
 cases n with
 |zero=>
  simp only[Builtin.clear_,List.getElem?_toArray,List.getElem?_cons_zero,aH,dZ,jq,bq];have:L.take off++List.replicate 0 z0++L.drop (off+0)=L:=al;rw[this]at h
  have e0:σ.set b (.cells L.toArray e (0,0))=σ:=Hp.ext' λy=>by
   by_cases ey:y=b
   ·subst ey;rw[Hp.bD,hb]
   ·rw[Hp.aO _ ey]
  rw[e0]at h;exact h
 |succ n=>
  simp only[Builtin.clear_,List.getElem?_toArray,List.getElem?_cons_zero,aH,dZ,jq,zeroValue,fQ,hi,hzero,bq,AY,hz]
  have ez:(Builtin.zeroCells #[z0] (n+1)).toList=List.replicate (n+1) z0:=by rw[ES]
  rw[ez];refine EM (e:=e) (a:=⟨b,off,none⟩) rfl _ 0 L.toArray σ _ hb (aZ hle) (by simp[RX]) ?_
  have e2:(L.toArray.extract 0 (off+0)++(List.replicate (n+1) z0).toArray++L.toArray.extract (off+0+(List.replicate (n+1) z0).length) L.toArray.size:Array Value)=(L.take off++List.replicate (n+1) z0++L.drop (off+(n+1))).toArray:=by apply Array.ext';simp[List.take_of_length_le]
  rw[e2];exact h
def OA(hu:P.underlying t=some (.slice e))(hx:ak ρ x=.slice b n c)(h:nx (aB ρ dst (.int .i64 c)) ds σ):
 aT E ⟨dst,.call ⟨.builtin .cap,#[x],#[t]⟩,ty,pos,af,g⟩ ρ ds σ nx pn:=by
 show wpOp E _ ρ ds σ nx pn;unfold wpOp;simp only[execOp,resolve,aH,bq,invoke];show wpS P (do pure (Next.value (<-Builtin.cap_ #[t] ty (#[x].map (ak ρ)))):Sem Next) _ _ _;rw[lf];have e1: #[x].map (ak ρ)= #[.slice b n c]:=by simp[hx]
 rw[e1];simp only[Builtin.cap_,List.getElem?_toArray,List.getElem?_cons_zero,aH,dZ,hu];exact h
variable {lo hi:Option Operand}{K:Value->Prop}
def amT{z:Nat}(h:iE P t=some z):ff P (.slice t x lo hi none) ρ σ K=wF False z K (lo.map (ak ρ)) (hi.map (ak ρ)) (ak ρ x):=by
 obtain⟨e,he,hs,hz⟩:=Ck h;subst hz;unfold ff cR;simp only[Hq he];generalize ak ρ x=vx;generalize lo.map (ak ρ)=l;generalize hi.map (ak ρ)=u
 cases vx<;>try exact gn
 rename_i a n c;simp only[wF,jd]
 cases l with
 |none=>
  simp only[nA,mg]
  cases u with
  |none=>simp only[jy,je,hs,and_true];exact vh
  |some hh=>simp only[jy,je];cases hh<;>first|exact gn|(simp only[hs,and_true];exact vh)
 |some ll=>
  cases ll<;>try exact gn
  simp only[nA,mg]
  cases u with
  |none=>simp only[jy,je,hs,and_true];exact vh
  |some hh=>simp only[jy,je];cases hh<;>first|exact gn|(simp only[hs,and_true];exact vh)
@[go_sem] def asK(hs:pU P t=false):ff P (.slice t x lo hi none) ρ σ K=qj False (λz=>wF False z K (lo.map (ak ρ)) (hi.map (ak ρ)) (ak ρ x)) (iE P t):=by
 cases h:iE P t with
 |some z=>rw[vj,amT h]
 |none=>
  rw[Fv]
  have e0:cR P (.slice t x lo hi none) ρ σ=match P.underlying t,ak ρ x with
   |some .string,.string s=>match nA (lo.map (ak ρ)),jy s.size (hi.map (ak ρ))with
    |some l,some h=>if 0<=l/\l<=h/\h<=s.size then some (.string (s.extract l.toNat h.toNat))else none
    |_,_=>none
   |some (.slice e),.slice a n c=>match nA (lo.map (ak ρ)),jy n (hi.map (ak ρ))with
    |some l,some h=>if 0<=l/\l<=h/\h<=c/\(P.info? e).isSome=true then
     some (.slice (if c=l.toNat then a else a.map (·.add (l.toNat*cq P e))) (h.toNat-l.toNat) (c-l.toNat))else none
    |_,_=>none
   |_,_=>none:=rfl
  have key:cR P (.slice t x lo hi none) ρ σ=none:=by
   rw[e0];split
   ·rename_i hu _;simp[pU,hu]at hs
   ·rename_i e a n c hu _
    have hi:(P.info? e).isSome=false:=by
     cases hh:P.info? e with
     |none=>rfl
     |some i=>simp[iE,s5,hu,hh]at h
    simp only[hi,Bool.false_eq_true,and_false,if_false];split<;>rfl
   ·rfl
  unfold ff;rw[key];exact gn
end Go.Qw
