/- Part 27. -/
import Derived.Test.YtpiabknabfbfhaaGreatDoorFairly26
set_option linter.all false
set_option maxRecDepth 100000
set_option maxHeartbeats 8000000
namespace Go.Qw
open Go Go.Conc Go.Proofs Go.Proofs.Tryz
def Er.ext(er:Er)(b:Nat):Ext:=match er with
 | .nil=>[]
 | .soft e cl me| .cH e cl me=>[(b,tr e cl me)]
def Er.v(er:Er)(b:Nat):Value:=match er with
 | .nil=>.nilIface
 | .soft _ _ _=>.iface 296 (.agg #[pV b])
 | .cH _ _ _=>.iface 214 (pV b)
structure qa (A A':Lay):Prop where
 gw:A'.gw=A.gw
 br:A'.br=A.br
 conn:A'.conn=A.conn
def qa.refl(A:Lay):qa A A:=⟨rfl,rfl,rfl⟩
def iq(A:Lay)(X:Ext)(n:N)(bf:Nat)(f:FR)(r:HO)(e:Fin)(τ:Hp):Prop:=match r with
 | .ok n' er=>∃A' H' b f',e=.returned (er.v b)/\qa A A'/\aq A' H' n' (er.ext b++(bf,bN f')::X) τ
 | .bad cl me=>∃H' s,e=.panicked lr/\aq A H' n ((bf,bN {f with s:=s,cl:=cl,me:=me})::X) τ
section
variable {E:Env prog}{H:Hid}{n:N}{X:Ext}{σ:Hp}{no:Nat}{c:CN}{h:HN}{nm:List UInt8}{q:QN}{bf:Nat}{f:FR}{ρ:av}{ds:List Deferred}{dst:Option Tmp}{nx:av->List Deferred->Hp->Prop}{pn:List PanicEntry->Hp->Prop}
variable {A:Lay}{id:Int}
def aq.eJ (a:aq A H n ((bf,bN f)::X) σ):σ.f bf=some (.cells [iV f.u.kind,iV f.u.channel,sV f.u.iS,.bool f.u.jT,.bool f.u.fR,sV f.s,iV f.cl,iV f.me].toArray 293 (0,0)):=a.eC
def iC {α:Type}{g:FuncId}{args:Array Value}{fv:α->Value}{r:Option (α×List UInt8)}(hg:cf prog g=true)(a:aq A H n ((bf,bN f)::X) σ)(h:ay E g args σ (qW σ bf 5 f.vals 293 fv r))
 (k:∀v rest τ,r=some (v,rest)->aq A H n ((bf,bN {f with s:=rest})::X) τ->nx (aB ρ dst (fv v)) ds τ) (kp:r=none->∀s τ,aq A H n ((bf,bN {f with s:=s})::X) τ->pn lr τ):jR E g args σ dst ρ ds nx pn:=
 B7 hg h (λv rest hr=>k v rest _ hr (a.uD (bN {f with s:=rest}))) (λhr l=>kp hr l _ (a.uD (bN {f with s:=l})))
def qe (a:aq A H n ((bf,bN f)::X) σ)(k:f.s=[]->nx (aB ρ dst (.tuple #[])) ds σ)(kp:f.s≠[]->pn lr σ):jR E 229 #[.pointer (some ⟨bf,5,none⟩)] σ dst ρ ds nx pn:=by
 by_cases hs:f.s=[]
 ·refine aR (Pc a.eJ (by rw[hs];rfl)) (k hs)
 ·exact Ou acn (aaN a.eJ rfl hs) (kp hs)
def jF {e cl me:Nat}(a:aq A H n ((bf,bN f)::X) σ)(aM:f.cl=(cl:Int))(aP:f.me=(me:Int)):
 ay E 189 #[pV bf,iV e] σ λe' τ=>∃b,e'=.returned ((Er.cH e cl me).v b)/\aq A H n ((Er.cH e cl me).ext b++(bf,bN f)::X) τ:=by
 refine(abd (e:=(e:Int)) a.eC).mono ?_;rintro e' τ ⟨b,rfl,hb,rfl⟩;rw[aM,aP];exact⟨b,rfl,a.iH hb _⟩
def wD {e cl me:Nat}(a:aq A H n ((bf,bN f)::X) σ)(aM:f.cl=(cl:Int))(aP:f.me=(me:Int)):
 ay E 266 #[pV bf,.iface 215 (iV e)] σ λe' τ=>∃b,e'=.returned ((Er.soft e cl me).v b)/\aq A H n ((Er.soft e cl me).ext b++(bf,bN f)::X) τ:=by
 refine aW func266 ntmps266 results266 λQ aC an aA=>?_;have hf:=a.eJ;rw[aM,aP]at hf;refine ag ?_;refine bG 14 ?_;refine aG hf ?_;refine⟨dG hf,?_⟩;refine ag ?_;refineλb hb=>?_;have a1:=λo=>a.iH hb o;have f1:=λo=>(a1 o).ext1;simp only[bN,FR.vals,aM,aP]at f1;refine⟨dG f1,?_⟩;refine ag ?_;refine⟨dG f1,?_⟩;exact an aI ao ⟨b,by simp[up,Er.v],a1 _⟩
def IZ (a:aq A H n X σ)(hq:n.q? nm=some q):ay E 287 #[pV A.br,sV nm] σ λe τ=>e=.returned (.tuple #[pV (A.queue nm),.nilIface])/\τ=σ:=by obtain⟨l,c,h1,h2,h3⟩:=a.mq;obtain⟨st,bw⟩:=rE h2 h3 (List.mem_map_of_mem (f:=λe:List UInt8×QN=>(e.1,pV (A.queue e.1))) (iJ hq));exact abq a.br h1 bw
def IY (a:aq A H n X σ)(hq:n.q? nm=none):ay E 287 #[pV A.br,sV nm] σ λe τ=>e=.returned (.tuple #[.pointer none,.iface 215 (iV 404)])/\τ=σ:=by
 obtain⟨l,c,h1,h2,h3⟩:=a.mq;have bw:=map_none h3 (k:=nm) (λe he=>by obtain⟨y,hy,rfl⟩:=List.mem_map.1 he;exact iK hq y hy);refine fI func287 ntmps287 results287 rfl al λQ aC an aA=>?_;simp only[go_sem,seval,a.tp];refine jM (b:=A.mq) (k:=nm) (l:=l) (c:=c) vN (z:=.pointer none) ah ?_ h1 ?_ ?_
 ·simp only[go_sem,seval]
 ·simp only[go_sem,seval];rfl
 have dk:((dn l nm).map (·.2.1)).getD (.pointer none)=.pointer none:=by rw[bw];rfl
 simp only[go_sem,seval,dk,Bool.false_eq_true];exact an iT ao ⟨by simp[up],rfl⟩
def alF (a:aq A H n X σ)(hq:n.q? nm=some q):ay E 288 #[pV (A.queue nm)] σ λe τ=>e=.returned (iV q.ready.length)/\At A (n.bL nm λq=>{q with ready:=[]}) X τ:=by refine aW func288 ntmps288 results288 λQ aC an aA=>?_;obtain⟨b,c,gT⟩:=(a.eP hq).shape;have hf:=a.sY hq;rw[gT]at hf;refine aG hf ?_;exact an aI ao ⟨by simp[up],_,a.aj0 hq (λq=>{q with ready:=[]}) rfl rfl⟩
def alG {cl me:Nat}(a:aq A H n ((bf,bN f)::X) σ)(hc:n.ar id=some c)(hh:n.h? id no=some h)(aM:f.cl=(cl:Int))(aP:f.me=(me:Int))(dY:no<1000000)(fN:c.r.out.length<=100000000000000)(jf:∀nm q,n.q? nm=some q->q.ready.length<=1000):
 ay E 269 #[pV (A.chan id no),pV bf] σ (iq A X n bf f (n.oY id no f.s cl me)):=by
 refine aW func269 ntmps269 results269 λQ aC an aA=>?_;refine ag ?_;refine iC sf a (s6 a.eJ rfl) (λnm rest τ hr a1=>?_) (λhr s τ a1=>aA _ _ _ _ ao ?_)
 rotate_left
 ·have e:n.oY id no f.s cl me=.bad cl me:=by unfold N.oY;rw[hr]
  rw[e];exact⟨H,s,rfl,by rw[<-aM,<-aP];exact a1⟩
 refine ag ?_;refine qe a1 (λhs=>?_) (λhs=>aA _ _ _ _ ao ?_)
 rotate_left
 ·have e:n.oY id no f.s cl me=.bad cl me:=by
   unfold N.oY;rw[hr];simp only at hs;cases rest with
   |nil=>exact absurd rfl hs
   |cons x l=>rfl
  rw[e];exact⟨H,rest,rfl,by rw[<-aM,<-aP];exact a1⟩
 simp only at hs;subst hs;refine bO (a1.bW hh) (a1.eu hc) a1.jH ?_
 cases hq:n.q? nm with
 |none=>
  have e:n.oY id no f.s cl me=.ok n (.soft 404 cl me):=by unfold N.oY;rw[hr];simp only[hq]
  refine aR (IY a1 hq) ?_;refine ag ?_;refine aL (wD (e:=404) a1 aM aP) ?_;rintro v cM ⟨b,hv,a2⟩
  cases hv
  refine ag ?_;refine an aI ao ?_;rw[e];exact⟨A,H,b,_,by simp[up],.refl A,a2⟩
 |some q=>
  have e:n.oY id no f.s cl me=.ok ((n.bL nm λq=>{q with ready:=[]}).send id (ck no 50 31 [.long q.ready.length])) .nil:=by unfold N.oY;rw[hr];simp only[hq]
  refine aR (IZ a1 hq) ?_;refine ag ?_;refine bG 13 ?_;refine aG (a1.bW hh) ?_;refine aL (alF a1 hq) ?_;rintro v cM ⟨hv,H2,a2⟩
  cases hv
  have eY:(n.bL nm λq=>{q with ready:=[]}).h? id no=some h:=hh;have dP:(n.bL nm λq=>{q with ready:=[]}).ar id=some c:=hc;refine⟨by(repeat(first|exact js|(apply jr;(focus decide+kernel))|(refine kS rfl (aK (a2.bW eY)) ?_))),?_⟩;refine ag ?_;refineλbn cz=>?_;have a3:=λo=>a2.fresh cz o;have f3:=λo=>(a3 o).bW eY;refine⟨dG f3,?_⟩;refine ag ?_;have Dn:=jf nm q hq;refine aL (px (ch:=no) (cl:=50) (me:=31) (xs:=[.long q.ready.length]) (a3 _) dP (.inr ⟨bn,rfl,aY⟩) ?_ al aa ai ai (by simp[cW,ep,bV]) aa) ?_
  ·simp[kH];omega
  rintro v fH ⟨hv,a4⟩
  cases hv
  have JZ:((n.bL nm λq=>{q with ready:=[]}).send id (ck no 50 31 [.long q.ready.length])).h? id no=some h:=by rw[pE];exact eY
  refine⟨by(repeat(first|exact js|(apply jr;(focus decide+kernel))|(refine kS rfl (aK (a4.bW JZ)) ?_))),?_⟩;refine ag ?_;refine an aI ao ?_;rw[e];exact⟨A,H2,0,_,by simp[up,Er.v],.refl A,a4⟩
end
section
variable {E:Env prog}{H:Hid}{n:N}{X:Ext}{σ:Hp}{no:Nat}{c:CN}{h:HN}{q:QN}{bf:Nat}{f:FR}{ρ:av}
variable {A:Lay}{id:Int}
def ZO (f:List UInt8×Int->Value)(tg:List UInt8)(co:List (List UInt8×Int)):((co.map λe=>(e.1,f e)).filter λe=>decide (e.1≠tg))=(cF co tg).map λe=>(e.1,f e):=by unfold cF;rw[List.filter_map];congr 1
def Y4 {cl me:Nat}(a:aq A H n ((bf,bN f)::X) σ)(hc:n.ar id=some c)(hh:n.h? id no=some h)(aM:f.cl=(cl:Int))(aP:f.me=(me:Int))(dY:no<1000000)(fN:c.r.out.length<=100000000000000)
 (hk:∀tg k,bu h.co tg=some k->EU n k) (hs:f.s.length<=1000000):
 ay E 271 #[pV (A.chan id no),pV bf] σ (iq A X n bf f (n.qf id no h f.s cl me)):=by
 refine aW func271 ntmps271 results271 λQ aC an aA=>?_;refine ag ?_;refine iC sf a (s6 a.eJ rfl) (λtg rest τ hr a1=>?_) (λhr s τ a1=>aA _ _ _ _ ao ?_)
 rotate_left
 ·have e:n.qf id no h f.s cl me=.bad cl me:=by unfold N.qf;rw[hr]
  rw[e];exact⟨H,s,rfl,by rw[<-aM,<-aP];exact a1⟩
 refine ag ?_;refine qe a1 (λhs=>?_) (λhs=>aA _ _ _ _ ao ?_)
 rotate_left
 ·have e:n.qf id no h f.s cl me=.bad cl me:=by
   unfold N.qf;rw[hr];simp only at hs;cases rest with
   |nil=>exact absurd rfl hs
   |cons x l=>rfl
  rw[e];exact⟨H,rest,rfl,by rw[<-aM,<-aP];exact a1⟩
 simp only at hs;subst hs;have e:n.qf id no h f.s cl me=.ok ((n.qT id no h tg).send id (ck no 60 31 [.text tg])) .nil:=by unfold N.qf;rw[hr]
 have htl:tg.length<=1000000:=by
  unfold jP fu at hr;split at hr
  ·simp only[Option.bind_some,zm]at hr;split at hr
   ·simp only[Option.some.injEq,Prod.mk.injEq]at hr;rw[<-hr.1,List.length_take,List.length_drop];omega
   ·cases hr
  ·cases hr
 obtain⟨l,kk,fL,gR,ic⟩:=a1.co hh
 have tail:∀{H2:Hid} {n2:N} {cM:Hp} {ρ:av} {h2:HN} {c2:CN},aq A H2 n2 ((bf,bN {f with s:=[]})::X) cM->n2.h? id no=some h2->n2.ar id=some c2->c2.r.out.length<=100000000000000->n2=n.qT id no h tg->ρ 0=pV (A.chan id no)->ρ 5=sV tg->
  cK E 52 (bM (aQ (aQ (aQ (aQ (f271.body.getD .skip)))))) (kX (cK E 52 (aQ (aQ (aQ (aQ (aQ (f271.body.getD .skip)))))) Q) Q) ρ [] cM:=by
  intro H2 n2 cM ρ h2 c2 a2 eY dP y0 xm h0 h5;simp only[f271,Option.getD_some,aQ,bM];refine bG 12 ?_;refine bO h0 h5 (a2.bW eY) ?_;refineλbn cz=>?_;have a3:=λo=>a2.fresh cz o;have f3:=λo=>(a3 o).bW eY;refine⟨dG f3,?_⟩;refine ag ?_;refine aL (px (ch:=no) (cl:=60) (me:=31) (xs:=[.text tg]) (a3 _) dP (.inr ⟨bn,rfl,aY⟩) (by simp[kH]) al aa ai ai (by simp[cW,ep,bV];omega) aa) ?_;rintro v fH ⟨hv,a4⟩
  cases hv
  have f4:=a4.bW (h:=h2) (by rw[pE];exact eY);refine⟨dA h0 h5 f4,?_⟩;refine ag ?_;refine an aI ao ?_;rw[e,<-xm];exact⟨A,H2,0,_,by simp[up,Er.v],.refl A,a4⟩
 refine aG (a1.bW hh) ?_;refine jM (b:=A.co id no) (k:=tg) (l:=l) (c:=kk) zg (z:=.pointer none) ah ?_ fL ?_ ?_
 ·exact au
 ·exact au
 rw[if_neg Bool.false_ne_true]
 cases hg:bu h.co tg with
 |none=>
  have dk:((dn l tg).map (·.2.1)).getD (.pointer none)=.pointer none:=by rw[map_none ic (k:=tg) (λe he=>by obtain⟨y,hy,rfl⟩:=List.mem_map.1 he;exact iK hg y hy)];rfl
  rw[dk];refine ag ?_;refine tail a1 hh hc fN (by unfold N.qT;rw[hg]) ?_ ?_
  ·exact au
  ·exact au
 |some k=>
  obtain⟨st,bw⟩:=rE gR ic (List.mem_map_of_mem (f:=λe:List UInt8×Int=>(e.1,pV (A.cons e.2))) (iJ hg));have dk:((dn l tg).map (·.2.1)).getD (.pointer none)=pV (A.cons k):=by rw[bw];rfl
  obtain⟨x,q,hx,hq,Dn,oN⟩:=hk tg k hg;rw[dk];refine bO (a1.bW hh) (a1.eu hc) a1.jH ?_;refine aL (Oy a1 oN hx hq Dn) ?_;rintro v cM ⟨hv,H2,a2⟩
  cases hv
  have eY:(n.cancel k).h? id no=some h:=by rw[Qi];exact hh
  obtain⟨l2,k2,oM,yU,yV⟩:=a2.co eY;refine aG (a2.bW eY) ?_;refine Ch (b:=A.co id no) (k:=tg) (l:=l2) (c:=k2) zg yU.uniq ?_ oM ?_ ?_
  ·exact au
  ·exact au
  obtain⟨d1,d2⟩:=DZ yU yV tg;have a3:=a2.Md eY (λh=>{h with co:=cF h.co tg}) rfl rfl (o:=aU bR (rF l2 tg) k2) ⟨_,_,rfl,d1,by simp only;rw[<-ZO (f:=λe=>pV (A.cons e.2)) (tg:=tg)];exact d2⟩;refine ag ?_;refine tail a3 (h2:={h with co:=cF h.co tg}) (c2:={c with ch:=dz c.ch no λh=>{h with co:=cF h.co tg}}) (by simp[hh]) (by simp[hc]) fN (by unfold N.qT;rw[hg]) ?_ ?_
  ·exact au
  ·exact au
end
section
variable {E:Env prog}{H:Hid}{n:N}{X:Ext}{σ:Hp}{no:Nat}{c:CN}{h:HN}{nm:List UInt8}{q:QN}{bf:Nat}{f:FR}{ρ:av}{ds:List Deferred}
variable {A:Lay}{id:Int}
def ak7 {w:Nat}{s:List UInt8}{r:Nat×List UInt8}(h:fu w s=some r):r.2.length+w=s.length:=by
 unfold fu at h;split at h
 ·cases h;simp;omega
 ·cases h
def ak8 {s:List UInt8}{r:List UInt8×List UInt8}(h:jP s=some r):r.1.length+r.2.length+1=s.length:=by
 unfold jP at h;obtain⟨x,h1,h2⟩:=Option.bind_eq_some_iff.1 h;have:=ak7 h1;unfold zm at h2;split at h2
 ·cases h2;simp;omega
 ·cases h2
def H0 (n:N)(h:HN):Prop:=(0<=h.r.tag/\h.r.tag<=1000000000000)/\(∀e∈h.un,(e.1:Int)≠h.r.tag+1)/\∀nm q,n.q? nm=some q->(0<=q.held/\q.held<=1000000)/\q.ready.length<=1000/\∀m∈q.ready,m.body.length<=100000/\m.key.length<=1000
def abZ {cl me fr:Nat}(a:aq A H n ((bf,bN f)::X) σ)(hc:n.ar id=some c)(hh:n.h? id no=some h)(aM:f.cl=(cl:Int))(aP:f.me=(me:Int))(dY:no<1000000)(fN:c.r.out.length<=100000000000000)
 (gP:c.r.frame=(fr:Int)) (f1:9<=fr/\fr<=1000000) (G:H0 n h):
 ay E 272 #[pV (A.chan id no),pV bf] σ (iq A X n bf f (n.get id no f.s cl me)):=by
 refine aW func272 ntmps272 results272 λQ aC an aA=>?_;refine ag ?_;refine xU [0,1,2,4,5,6,3,7,8,9] (λch ds σ=>ds=[]/\(iq A X n bf f (n.get id no f.s cl me)) (.panicked ch) σ) ah ir (λch ρ ds σ h=>by obtain⟨rfl,h⟩:=h;exact aA _ _ _ _ ao h) ?_;refine ag ?_;refine iC sf a (s6 a.eJ rfl) (λnm s1 τ hr a1=>?_) (λhr s τ a1=>⟨rfl,?_⟩)
 rotate_left
 ·have e:n.get id no f.s cl me=.bad cl me:=by unfold N.get;rw[hr]
  rw[e];exact⟨H,s,rfl,by rw[<-aM,<-aP];exact a1⟩
 refine fO ?_;refine ag ?_;refine iC Ja a1 (I0 a1.eJ rfl) (λna s2 fy bY a2=>?_) (λbY s τ a2=>⟨rfl,?_⟩)
 rotate_left
 ·have e:n.get id no f.s cl me=.bad cl me:=by unfold N.get;rw[hr];simp only[bY]
  rw[e];exact⟨H,s,rfl,by rw[<-aM,<-aP];exact a2⟩
 simp only at bY;refine fO ?_;refine ag ?_;refine qe a2 (λhs=>?_) (λhs=>aA _ _ _ _ ao ?_)
 rotate_left
 ·have e:n.get id no f.s cl me=.bad cl me:=by
   unfold N.get;rw[hr];simp only[bY];simp only at hs;cases s2 with
   |nil=>exact absurd rfl hs
   |cons x l=>rfl
  rw[e];exact⟨H,s2,rfl,by rw[<-aM,<-aP];exact a2⟩
 simp only at hs;subst hs;obtain⟨g1,g2,g3⟩:=G;refine bO (a2.bW hh) (a2.eu hc) a2.jH ?_
 cases hq:n.q? nm with
 |none=>
  have e:n.get id no f.s cl me=.ok n (.soft 404 cl me):=by unfold N.get;rw[hr];simp only[bY,hq]
  refine aR (IY a2 hq) ?_;refine ag ?_;refine aL (wD (e:=404) a2 aM aP) ?_;rintro v cM ⟨b,hv,a3⟩
  cases hv
  refine ag ?_;refine an aI ao ?_;rw[e];exact⟨A,H,b,_,by simp[up],.refl A,a3⟩
 |some q=>
  obtain⟨q1,q2,q3⟩:=g3 nm q hq;refine aR (IZ a2 hq) ?_;refine ag ?_
  cases gv:q.ready with
  |nil=>
   have e:n.get id no f.s cl me=.ok (n.send id (ck no 60 72 [])) .nil:=by unfold N.get;rw[hr];simp only[bY,hq,gv]
   obtain⟨rb,rc,gT⟩:=(a2.eP hq).shape;have mf:=a2.queue hq;rw[gT,gv]at mf;refine aL (ajw (b:=rb) (c:=rc) mf) ?_;rintro v cM ⟨hv,hle⟩;obtain rfl:v=.tuple #[.agg #[iV 0,sV [],sV [],.bool false],.bool false]:=by injection hv
   simp only[go_sem,seval];refineλb9 oJ=>?_;simp only[go_sem,seval];rw[Hp.set_set];have a3:=λo=>(a2.le hle).fresh oJ o;have f3:=λo=>(a3 o).bW hh;refine bG 9 ?_;refine aG f3 ?_;refine aL (px (ch:=no) (cl:=60) (me:=72) (xs:=[]) (a3 _) hc (.inl ⟨rfl,rfl⟩) al al aa ai ai (by simp[cW]) aa) ?_;rintro v fH ⟨hv,a4⟩
   cases hv
   have f4:=a4.bW (h:=h) (by rw[pE];exact hh);refine⟨dG f4,?_⟩;refine ag ?_;refine an aI ao ?_;rw[e];exact⟨A,H,0,_,by simp[up,Er.v],.refl A,a4⟩
  |cons m ms=>
   obtain⟨tg,AV⟩:∃tg:Nat,h.r.tag=(tg:Int):=⟨h.r.tag.toNat,aa⟩;have IS:h.r.tag+1=((tg+1:Nat):Int):=aa;have tK:ms.length<=1000:=by have:=congrArg List.length gv;simp only[List.length_cons]at this;omega
   obtain⟨m1,m2⟩:=q3 m (by rw[gv];simp);refine aL (S6 a2 hq gv tK) ?_;rintro v cM ⟨hv,H3,a3⟩;obtain rfl:v=.tuple #[.agg #[iV m.seq,sV m.key,sV m.body,.bool m.again],.bool true]:=by injection hv
   simp only[go_sem,seval];refineλb9 oJ=>?_;simp only[go_sem,seval];rw[Hp.set_set];have a4:=λo=>a3.iH oJ o;have x4:=λo=>(a4 o).eC;simp only at x4;have lE:(n.bL nm λq=>{q with ready:=q.ready.tail}).q? nm=some {q with ready:=q.ready.tail}:=by rw[uA,if_pos rfl,hq];rfl
   have yN:(n.bL nm λq=>{q with ready:=q.ready.tail}).h? id no=some h:=hh;have kL:(n.bL nm λq=>{q with ready:=q.ready.tail}).ar id=some c:=hc;refine ag ?_;refine aL (Qt (m:=m) (na:=na) (a4 _) yN lE g1 q1 g2) ?_;rintro v gX ⟨hv,a5⟩;obtain rfl:v=iV ((tg+1:Nat):Int):=by rw[<-IS];injection hv
   generalize hN:n.bL nm (λq=>{q with ready:=q.ready.tail})=n3 at a5 lE yN kL;obtain⟨c6,ib,se⟩:=OO (n:=n3) (no:=no) (nm:=nm) (m:=m) (na:=na) kL;obtain⟨h6,oL,eh6⟩:=Qj (n:=n3) (nm:=nm) (m:=m) (na:=na) yN;obtain⟨q6,tP,eq6⟩:=TH (n:=n3) (id:=id) (no:=no) (nm:=nm) (m:=m) (na:=na) lE;have Rz:q6.ready.length=ms.length:=by rw[eq6];simp[gv]
   have x5:=a5.eC;simp only at x5;refine ag ?_;refine bG 21 ?_;refine bt (a5.bW oL) x5 ?_;obtain⟨rb,rc,gT⟩:=(a5.eP tP).shape;have Rx:=a5.queue tP;rw[gT]at Rx;refine aR (L6 Rx) ?_;refine⟨by(repeat(first|exact js|(apply jr;(focus decide+kernel))|(refine kS rfl (wG (a5.bW oL) x5) ?_))),?_⟩;refine ag ?_;refineλbn cz=>?_;have a7:=λo=>a5.fresh cz o;have x7:=λo=>(a7 o).eC;simp only at x7;have h7:=λo=>(a7 o).bW oL;refine⟨dG h7,?_⟩;refine ag ?_;refine aL (px (ch:=no) (cl:=60) (me:=71) (xs:=[.mW (tg+1),.flag m.again,.text m.key,.long ms.length]) (a7 _) ib (.inr ⟨bn,by rw[<-Rz];rfl,by rw[<-Rz];exact Hp.bD _ _⟩) ?_ al aa ai ai ?_ (by rw[se];omega)) ?_
   ·simp[kH];omega
   ·simp[cW,ep,bV];omega
   rintro v τ8 ⟨hv,a8⟩
   cases hv
   have adW:(ck no 60 71 [.mW (tg+1),.flag m.again,.text m.key,.long ms.length]).length<=3000:=by rw[Iw];simp[cW,ep,bV];omega
   generalize hS:ck no 60 71 [.mW (tg+1),.flag m.again,.text m.key,.long ms.length]=S at a8 adW;have C2:((n3.hand id no nm m na).send id S).h? id no=some h6:=by rw[pE];exact oL
   have yK:((n3.hand id no nm m na).send id S).ar id=some {c6 with r:={c6.r with out:=c6.r.out++S,gV:=(n3.hand id no nm m na).clock}}:=by rw[rY,if_pos rfl,ib];rfl
   have x8:=a8.eC;simp only at x8;have h8:=a8.bW C2;have f8:=a8.eu yK;simp only[se,gP]at f8;refine⟨iP h8 x8,?_⟩;refine ag ?_;refine bG 19 ?_;refine bO h8 x8 f8 ?_;refine aR (OR (ch:=no) (size:=fr) (body:=m.body) aa f1.1 f1.2 aa) ?_;refine⟨dG h8,?_⟩;refine ag ?_
   have ad1:(lT no m.body fr).length<=1000000:=by unfold lT;have:=Tx no (fr-8) aa m.body.length m.body (Nat.le_refl _);simp only[List.length_append,nL,bV];omega
   refine aL (Mb (s:=lT no m.body fr) a8 yK (by simp only[List.length_append,se];omega)) ?_;rintro v uP ⟨hv,a9⟩
   cases hv
   have x9:=a9.eC;simp only at x9;have J0:(((n3.hand id no nm m na).send id S).send id (lT no m.body fr)).h? id no=some h6:=by rw[pE];exact C2
   obtain⟨c9,CQ,IN⟩:∃c9,(((n3.hand id no nm m na).send id S).send id (lT no m.body fr)).ar id=some c9/\c9.r.frame=fr:=by rw[rY,if_pos rfl,yK];exact⟨_,rfl,by simp only;rw[se];exact gP⟩
   have h9:=a9.bW J0;have f9:=a9.eu CQ;rw[IN]at f9;refine⟨dA h9 x9 f9,?_⟩;refine ag ?_;refine an aI ao ?_
   have e:n.get id no f.s cl me=.ok (((n3.hand id no nm m na).send id S).send id (lT no m.body fr)) .nil:=by
    unfold N.get;rw[hr];have e1:n.tag id no=tg:=by unfold N.tag;rw[hh];simp[AV]
    have e2:(n3.hand id no nm m na).frame id=fr:=by unfold N.frame;rw[ib];simp[se,gP]
    simp only[bY,hq,gv,N.give,e1,hN,e2,hS]
   rw[e];exact⟨A,H3,0,_,by simp[up,Er.v],.refl A,a9.oD⟩
end
section
variable {E:Env prog}{H:Hid}{n:N}{X:Ext}{σ:Hp}{no:Nat}{c:CN}{h:HN}{nm:List UInt8}{q:QN}{bf:Nat}{f:FR}{ρ:av}{ds:List Deferred}{nx:av->List Deferred->Hp->Prop}{pn:List PanicEntry->Hp->Prop}
variable {A:Lay}{id:Int}
def sJ (tag:Nat)(many:Bool)(t:Nat):Bool:=decide (t=tag)||(many&&(decide (t<tag)||decide (tag=0)))
def anJ {p:Nat->Bool}{b:Bool}{l:List (Nat×(List UInt8×aX))}{j:Nat}(hj:j<l.length):n.jx id no p b (l.take (j+1))=if p l[j].1 then(n.jx id no p b (l.take j)).settle id no l[j].1 b else n.jx id no p b (l.take j):=by unfold N.jx;rw[List.take_succ_eq_append_getElem hj,List.foldl_append];rfl
structure HX (n:N) (id:Int) (no:Nat) (h:HN) (p:Nat->Bool) (b:Bool):Prop where
 nd:(h.un.map (·.1)).Nodup
 sep:tf h.un
 len:h.un.length<=1000
 step:∀l e,e∈h.un->(∀x∈l,¬x.1=e.1)->p e.1=true->HW (n.jx id no p b l) id no e
def anM {cl me:Nat}(a:aq A H n ((bf,bN f)::X) σ)(hh:n.h? id no=some h)(aM:f.cl=(cl:Int))(aP:f.me=(me:Int))
 (S:∀tag many b,HX n id no h (sJ tag many) b):
 ay E 273 #[pV (A.chan id no),pV bf] σ (iq A X n bf f (n.settled id no h f.s cl me)):=by
 refine aW func273 ntmps273 results273 λQ aC an aA=>?_;refine ag ?_;refine xU [0,1,2,4,5,6,8,9,10,3,7,11,12,13,14] (λch ds σ=>ds=[]/\(iq A X n bf f (n.settled id no h f.s cl me)) (.panicked ch) σ) ah ir (λch ρ ds σ h=>by obtain⟨rfl,h⟩:=h;exact aA _ _ _ _ ao h) ?_;refine ag ?_;refine iC nM a (ob (w:=4) a.eJ rfl ai) (λhigh s1 τ hr a1=>?_) (λhr s τ a1=>⟨rfl,?_⟩)
 rotate_left
 ·have e:n.settled id no h f.s cl me=.bad cl me:=by unfold N.settled;rw[hr]
  rw[e];exact⟨H,s,rfl,by rw[<-aM,<-aP];exact a1⟩
 refine fO ?_;refine ag ?_;refine iC nM a1 (ob (w:=4) a1.eJ rfl ai) (λtag s2 fy bY a2=>?_) (λbY s τ a2=>⟨rfl,?_⟩)
 rotate_left
 ·have e:n.settled id no h f.s cl me=.bad cl me:=by unfold N.settled;rw[hr];simp only[bY]
  rw[e];exact⟨H,s,rfl,by rw[<-aM,<-aP];exact a2⟩
 simp only at bY;refine fO ?_;refine ag ?_;refine iC Ja a2 (I0 a2.eJ rfl) (λflag s3 cM eg a3=>?_) (λeg s τ a3=>⟨rfl,?_⟩)
 rotate_left
 ·have e:n.settled id no h f.s cl me=.bad cl me:=by unfold N.settled;rw[hr];simp only[bY,eg]
  rw[e];exact⟨H,s,rfl,by rw[<-aM,<-aP];exact a3⟩
 simp only at eg;refine fO ?_;refine ag ?_;refine qe a3 (λhs=>?_) (λhs=>aA _ _ _ _ ao ?_)
 rotate_left
 ·have e:n.settled id no h f.s cl me=.bad cl me:=by
   unfold N.settled;rw[hr];simp only[bY,eg];simp only at hs;cases s3 with
   |nil=>exact absurd rfl hs
   |cons x l=>rfl
  rw[e];exact⟨H,s3,rfl,by rw[<-aM,<-aP];exact a3⟩
 simp only at hs;subst hs;obtain⟨mw,CJ⟩:∃mw:Bool,mw=decide (me=80):=⟨_,rfl⟩;obtain⟨wE,Gt⟩:∃b:Bool,b=(bu h.un tag).isSome:=⟨_,rfl⟩;obtain⟨back,Qv⟩:∃b:Bool,b=(!mw&&flag):=⟨_,rfl⟩
 have loop:∀(ρ:av) (τ:Hp) (H1:Hid) (many:Bool),many=(mw&&flag)->aq A H1 n ((bf,bN {f with s:=[]})::X) τ->ρ 0=pV (A.chan id no)->ρ 6=iV tag->ρ 7=.bool flag->ρ 8=.bool mw->ρ 11=.bool many->
  ((decide (high=0)&&wE)||(many&&decide (high=0)&&decide (tag=0)))=true->
  cK E 104 (aQ (aQ (aQ (aQ (aQ (aQ (aQ (aQ (f273.body.getD .skip))))))))) Q ρ [] τ:=by
  intro ρ τ H1 many Dc a4 h0 h6 h7 h8 bP fV
  have e:n.settled id no h f.s cl me=.ok (n.jx id no (sJ tag many) back h.un) .nil:=by
   unfold N.settled;rw[hr];simp only[bY,eg];have c1:(decide (high=0)&&(bu h.un tag).isSome||decide (me=80)&&flag&&decide (high=0)&&decide (tag=0))=true:=by rw[<-Gt,<-CJ,<-Dc];exact fV
   rw[if_pos c1];have c2:decide (me≠80)= !mw:=by rw[CJ];simp
   rw[c2,<-Qv,<-CJ,<-Dc];rfl
  simp only[f273,Option.getD_some,aQ];obtain⟨lu,ku,xr,za,xt⟩:=a4.un hh;have yT:lu.length=h.un.length:=by have:=xt.length_eq;simpa using this
  have SS:=S tag many back;refine bt h0 (a4.bW hh) ?_;refine aL (Uw xr za.old za.nd (by rw[yT];exact SS.len)) ?_;rintro v gX ⟨tJ,v',ys,hv,p1,_,p3,p4⟩
  cases hv
  obtain⟨ts,vE,rfl⟩:=zn (p1.trans (by have:=xt.map (·.1);simpa[List.map_map,Function.comp_def]using this)) (xs:=h.un) (f:=λe=>((e.1:Nat):Int)) rfl;have hl:=vE.length_eq;obtain⟨X2,a5,zt⟩:=a4.zY tJ p3 p4;obtain⟨B5,qY,rfl,_⟩:=p3.read;have gR:(ts.map λe=>((e.1:Nat):Int)).length=ts.length:=al;refine aG gR ?_;refine dh (λm ρ ds ae=>ds=[]/\ρ 0=pV (A.chan id no)/\ρ 6=iV tag/\ρ 7=.bool flag/\ρ 8=.bool mw/\ρ 11=.bool many/\ρ 74=.slice B5 ts.length qY/\ρ 75=iV ts.length/\∃(j:Nat) (H':Hid),j+m=ts.length/\ρ 76=iV j/\aq A H' (n.jx id no (sJ tag many) back (ts.take j)) X2 ae) ts.length ?_ ?_
  ·refine⟨rfl,?_,?_,?_,?_,?_,?_,?_,0,H1,al,?_,a5⟩<;>exact Hw h0 h6 h7 h8 bP gR
  clear h0 h6 h7 h8 bP;rintro m ρ ds dr Y ⟨rfl,h0,h6,h7,h8,bP,tB,sn,j,H5,xi,rh,aj⟩ hY;have w1:IntKind.i64.wrap ((j:Int)+1)=((j+1:Nat):Int):=by have:=SS.len;rw[wrap64 aa aa];rfl
  cases m with
  |zero=>
   have c0:¬(j:Int)<ts.length:=aa;have vv:j=ts.length:=aa;rw[vv,List.take_length]at aj;simp only[go_sem,seval,sn,rh,c0,decide_false];refine an aI ao ?_;rw[e,<-Um vE λg hg=>by cases hh.symm.trans hg;exact SS.sep];exact⟨A,H5,0,_,by simp[up,Er.v],.refl A,(zt aj).1⟩
  |succ m=>
   have hj:j<ts.length:=aa;have c0:(j:Int)<ts.length:=aa;obtain⟨_,sj⟩:=zt aj;obtain⟨b2,yv,e2,r2⟩:=sj.read;simp only[Value.slice.injEq]at e2;obtain⟨rfl,_,_⟩:=e2;obtain⟨ba,L,rfl,gO,hL⟩:=r2 j (aZ hj);simp only[List.getElem_map,aV]at hL;obtain⟨t,ht⟩:∃t,t=ts[j].1:=⟨_,rfl⟩;rw[<-ht]at hL;have Kw:=anJ (n:=n) (id:=id) (no:=no) (p:=sJ tag many) (b:=back) hj;rw[<-ht]at Kw;have can:=SS.step (ts.take j) ts[j] (vE.mem_iff.1 (List.getElem_mem hj)) (GZ ((vE.map (·.1)).nodup_iff.2 SS.nd) hj);rw[<-ht]at can;refine fG λK1 oH=>?_;simp only[go_sem,seval,sn,rh,c0,decide_true];refine oH _ _ _ (fG λK2 pD=>?_);refine ag ?_;refine pD _ _ _ (fG λK3 ri=>BK (fG λK4 tD=>?_));refine bt tB rh ?_;refine⟨aa,?_⟩;refine bt gO hL ?_;refine tD _ _ _ (fG λK5 Az=>?_)
   have go:∀(aD:av) (v:Bool),v=sJ tag many t->aD 94=.bool v->aD 13=iV t->aD 0=pV (A.chan id no)->aD 6=iV tag->aD 7=.bool flag->aD 8=.bool mw->aD 11=.bool many->aD 74=.slice (some ⟨ba,0,none⟩) ts.length qY->aD 75=iV ts.length->aD 76=iV j->K5 aD [] dr:=by
    clear h0 h6 h7 h8 bP tB sn rh;intro aD v hv P8 lW h0 h6 h7 h8 bP tB sn rh;refine Az _ _ _ ?_
    cases v with
    |false=>
     refine aG P8 ?_;refine ri _ _ _ ?_;refine bt rh w1 ?_;refine hY m _ _ _ _ aa ⟨rfl,?_,?_,?_,?_,?_,?_,?_,j+1,H5,aa,?_,by rw[Kw,<-hv,if_neg Bool.false_ne_true];exact aj⟩ ao<;>exact Hx h0 h6 h7 h8 bP tB sn
    |true=>
     obtain⟨h',q,dT,ij,hq,b1,Ae,hs⟩:=can hv.symm;rw[<-ht]at ij;subst Qv
     cases mw
     all_goals
      simp only[go_sem,seval,P8,h0,h7,h8,lW,Bool.not_true,Bool.not_false];refine aL (Uo (nm:=ts[j].2.1) (m:=ts[j].2.2) (tag:=t) aj dT ij hq b1 Ae hs) ?_;rintro v2 cM ⟨lH,H2,a2⟩
      cases lH
      refine ag ?_;refine ri _ _ _ ?_;refine bt rh w1 ?_;refine hY m _ _ _ _ aa ⟨rfl,?_,?_,?_,?_,?_,?_,?_,j+1,H2,aa,?_,by rw[Kw,<-hv,if_pos rfl];exact a2⟩ ao<;>exact Hx h0 h6 h7 h8 bP tB sn
   by_cases d1:t=tag
   ·have rZ:(t:Int)=tag:=aa;simp only[go_sem,seval,h6,eq_true rZ,decide_true];refine go _ true (by simp[sJ,d1]) ?_ ?_ ?_ ?_ ?_ ?_ ?_ ?_ ?_ ?_<;>exact s7 h0 h6 h7 h8 bP tB sn rh
   have rZ:¬(t:Int)=tag:=aa
   cases hm:many with
   |false=>
    rw[hm]at go bP;simp only[go_sem,seval,h6,bP,rZ,decide_false];refine go _ false (by simp[sJ,d1]) ?_ ?_ ?_ ?_ ?_ ?_ ?_ ?_ ?_ ?_<;>exact s7 h0 h6 h7 h8 bP tB sn rh
   |true=>
    rw[hm]at go bP;by_cases d2:t<tag
    ·have wM:(t:Int)<tag:=aa;simp only[go_sem,seval,h6,bP,rZ,wM,decide_true,decide_false];refine go _ true (by simp[sJ,d2]) ?_ ?_ ?_ ?_ ?_ ?_ ?_ ?_ ?_ ?_<;>exact s7 h0 h6 h7 h8 bP tB sn rh
    have wM:¬(t:Int)<tag:=aa;by_cases d3:tag=0
    ·have IF:(tag:Int)=0:=aa;simp only[go_sem,seval,h6,bP,rZ,wM,eq_true IF,decide_true,decide_false];refine go _ true (by simp[sJ,d3]) ?_ ?_ ?_ ?_ ?_ ?_ ?_ ?_ ?_ ?_<;>exact s7 h0 h6 h7 h8 bP tB sn rh
    ·have IF:¬(tag:Int)=0:=aa;simp only[go_sem,seval,h6,bP,rZ,wM,IF,decide_false];refine go _ false (by simp[sJ,d1,d2,d3]) ?_ ?_ ?_ ?_ ?_ ?_ ?_ ?_ ?_ ?_<;>exact s7 h0 h6 h7 h8 bP tB sn rh
 have fail:(!(decide (high=0)&&wE)&& !(mw&&flag&&decide (high=0)&&decide (tag=0)))=true->n.settled id no h f.s cl me=.ok n (.soft 406 cl me):=by
  intro hf;unfold N.settled;rw[hr];simp only[bY,eg]
  have c1:¬(decide (high=0)&&(bu h.un tag).isSome||decide (me=80)&&flag&&decide (high=0)&&decide (tag=0))=true:=by rw[<-Gt,<-CJ];intro hc;rcases Bool.or_eq_true_iff.1 hc with hc|hc<;>simp only[hc,Bool.not_true,Bool.false_and,Bool.and_false]at hf<;>cases hf
  rw[if_neg c1]
 have r7:∀(ρ:av) (τ:Hp) (H1:Hid) (many there:Bool),many=(mw&&flag)->there=(decide (high=0)&&wE)->aq A H1 n ((bf,bN {f with s:=[]})::X) τ->ρ 0=pV (A.chan id no)->ρ 1=pV bf->ρ 5=iV high->ρ 6=iV tag->ρ 7=.bool flag->ρ 8=.bool mw->ρ 10=.bool there->ρ 11=.bool many->
  cK E 104 (aQ (aQ (aQ (aQ (aQ (aQ (aQ (f273.body.getD .skip)))))))) Q ρ [] τ:=by
  intro ρ τ H1 many there Dc Gx a4 h0 h1 h5 h6 h7 h8 bA bP;have lp:=λaD k0 k6 k7 k8 vM fV=>loop aD τ H1 many Dc a4 k0 k6 k7 k8 vM fV;simp only[f273,Option.getD_some,aQ]at lp|-;refine fG λK hK=>?_;have xB:∀aD,aD 0=ρ 0->aD 6=ρ 6->aD 7=ρ 7->aD 8=ρ 8->aD 11=ρ 11->((decide (high=0)&&wE)||(many&&decide (high=0)&&decide (tag=0)))=true->K aD [] τ:=λaD k0 k6 k7 k8 vM fV=>hK _ _ _ (lp aD (by rw[k0,h0]) (by rw[k6,h6]) (by rw[k7,h7]) (by rw[k8,h8]) (by rw[vM,bP]) fV);clear lp hK
  cases there with
  |true=>
   simp only[go_sem,seval,bA,Bool.not_true];refine xB _ ?_ ?_ ?_ ?_ ?_ (by rw[<-Gx];rfl)<;>exact au
  |false=>
   have bad:∀{aD:av} {nx:av->List Deferred->Hp->Prop} {pn:List PanicEntry->Hp->Prop} {d:Option Tmp},(many&&decide (high=0)&&decide (tag=0))=false->(∀b cM,aq A H1 n ((Er.soft 406 cl me).ext b++(bf,bN {f with s:=[]})::X) cM->iq A X n bf f (n.settled id no h f.s cl me) (.returned ((Er.soft 406 cl me).v b)) cM->nx (aB aD d ((Er.soft 406 cl me).v b)) [] cM)->jR E 266 #[pV bf,.iface 215 (iV 406)] τ d aD [] nx pn:=by
    intro aD nx pn d hb k;refine aL (wD (e:=406) a4 aM aP) ?_;rintro v cM ⟨b,hv,a5⟩
    cases hv
    refine k b cM a5 ?_;rw[fail (by rw[<-Gx,<-Dc,hb];rfl)];exact⟨A,H1,b,_,rfl,.refl A,a5⟩
   cases hm:many with
   |false=>
    rw[hm]at bP;simp only[go_sem,seval,h1,bA,bP,Bool.not_false];refine bad (by rw[hm];rfl) λb cM a5 eN=>?_;refine ag ?_;exact an aI ao (by simpa[up]using eN)
   |true=>
    rw[hm]at bP;by_cases d1:high=0
    ·have rZ:(high:Int)=0:=aa;by_cases d2:tag=0
     ·have wM:(tag:Int)=0:=aa;simp only[go_sem,seval,h5,h6,bA,bP,Bool.not_false,Bool.not_true,eq_true rZ,eq_true wM,decide_true];refine xB _ ?_ ?_ ?_ ?_ ?_ (by rw[hm,d1,d2];simp)<;>exact au
     ·have wM:¬(tag:Int)=0:=aa;simp only[go_sem,seval,h1,h5,h6,bA,bP,Bool.not_false,eq_true rZ,wM,decide_true,decide_false];refine bad (by simp[d2]) λb cM a5 eN=>?_;refine ag ?_;exact an aI ao (by simpa[up]using eN)
    ·have rZ:¬(high:Int)=0:=aa;simp only[go_sem,seval,h1,h5,bA,bP,Bool.not_false,rZ,decide_false];refine bad (by simp[d1]) λb cM a5 eN=>?_;refine ag ?_;exact an aI ao (by simpa[up]using eN)
 have r6:∀(ρ:av) (τ:Hp) (H1:Hid) (there:Bool),there=(decide (high=0)&&wE)->aq A H1 n ((bf,bN {f with s:=[]})::X) τ->ρ 0=pV (A.chan id no)->ρ 1=pV bf->ρ 5=iV high->ρ 6=iV tag->ρ 7=.bool flag->ρ 8=.bool mw->ρ 10=.bool there->
  cK E 104 (aQ (aQ (aQ (aQ (aQ (aQ (f273.body.getD .skip))))))) Q ρ [] τ:=by
  intro ρ τ H1 there Gx a4 h0 h1 h5 h6 h7 h8 bA;have lp:=λaD many hm k0 k1 k5 k6 k7 k8 vL vM=>r7 aD τ H1 many there hm Gx a4 k0 k1 k5 k6 k7 k8 vL vM;simp only[f273,Option.getD_some,aQ]at lp|-;refine fG λK hK=>?_;have xB:∀aD many,many=(mw&&flag)->aD 0=ρ 0->aD 1=ρ 1->aD 5=ρ 5->aD 6=ρ 6->aD 7=ρ 7->aD 8=ρ 8->aD 10=ρ 10->aD 11=.bool many->K aD [] τ:=λaD many hm k0 k1 k5 k6 k7 k8 vL vM=>hK _ _ _ (lp aD many hm (by rw[k0,h0]) (by rw[k1,h1]) (by rw[k5,h5]) (by rw[k6,h6]) (by rw[k7,h7]) (by rw[k8,h8]) (by rw[vL,bA]) vM);clear lp hK
  cases mw with
  |true=>
   refine bt h7 h8 ?_;refine xB _ flag rfl ?_ ?_ ?_ ?_ ?_ ?_ ?_ ?_<;>exact au
  |false=>
   refine aG h8 ?_;refine xB _ false rfl ?_ ?_ ?_ ?_ ?_ ?_ ?_ ?_<;>exact au
 have r5:∀(ρ:av) (τ:Hp) (H1:Hid),aq A H1 n ((bf,bN {f with s:=[]})::X) τ->ρ 0=pV (A.chan id no)->ρ 1=pV bf->ρ 5=iV high->ρ 6=iV tag->ρ 7=.bool flag->ρ 8=.bool mw->ρ 10=.bool wE->
  cK E 104 (aQ (aQ (aQ (aQ (aQ (f273.body.getD .skip)))))) Q ρ [] τ:=by
  intro ρ τ H1 a4 h0 h1 h5 h6 h7 h8 bA;have lp:=λaD there hm k0 k1 k5 k6 k7 k8 vL=>r6 aD τ H1 there hm a4 k0 k1 k5 k6 k7 k8 vL;simp only[f273,Option.getD_some,aQ]at lp|-;refine fG λK hK=>?_;have xB:∀aD there,there=(decide (high=0)&&wE)->aD 0=ρ 0->aD 1=ρ 1->aD 5=ρ 5->aD 6=ρ 6->aD 7=ρ 7->aD 8=ρ 8->aD 10=.bool there->K aD [] τ:=λaD there hm k0 k1 k5 k6 k7 k8 vL=>hK _ _ _ (lp aD there hm (by rw[k0,h0]) (by rw[k1,h1]) (by rw[k5,h5]) (by rw[k6,h6]) (by rw[k7,h7]) (by rw[k8,h8]) vL);clear lp hK;have ez:decide ((high:Int)=0)=decide (high=0):=al
  cases Du:wE with
  |true=>
   rw[Du]at bA;refine bt h5 bA ?_;refine xB _ (decide ((high:Int)=0)) (by rw[ez,Du,Bool.and_true]) ?_ ?_ ?_ ?_ ?_ ?_ ?_<;>exact au
  |false=>
   rw[Du]at bA;refine aG bA ?_;refine xB _ false (by rw[Du,Bool.and_false]) ?_ ?_ ?_ ?_ ?_ ?_ ?_<;>exact au
 show cK E 104 (aQ (aQ (aQ (f273.body.getD .skip)))) Q _ [] _;simp only[f273,Option.getD_some,aQ]at r5|-;refine fG λK hK=>?_;have eme:decide ((me:Int)=80)=mw:=by rw[CJ];simp;omega
 have QZ:=a3.eJ;rw[aP]at QZ;refine aG QZ ?_;refine hK _ _ _ (fG λK4 tD=>?_);clear hK;obtain⟨lu,ku,xr,za,xt⟩:=a3.un hh;refine aG (a3.bW hh) ?_;refine jM (b:=A.un id no) (k:=(tag:Int)) (l:=lu) (c:=ku) A6 (z:=.agg #[.pointer none,iV 0,sV [],sV [],.bool false]) ah ?_ xr ?_ ?_
 ·exact au
 ·exact au
 have dk:∃x1 x2 x3 x4 x5,((dn lu (tag:Int)).map (·.2.1)).getD (.agg #[.pointer none,iV 0,sV [],sV [],.bool false])=.agg #[.pointer x1,iV x2,sV x3,sV x4,.bool x5]/\(dn lu (tag:Int)).isSome=wE:=by
  cases hg:bu h.un tag with
  |none=>
   have:=map_none xt (k:=(tag:Int)) (λe he=>by obtain⟨y,hy,rfl⟩:=List.mem_map.1 he;exactλe2=>iK hg y hy (by simp only at e2;omega));rw[this];exact⟨none,0,[],[],false,rfl,by rw[Gt,hg];rfl⟩
  |some v=>
   obtain⟨st,bw⟩:=rE za xt (List.mem_map_of_mem (f:=λe:Nat×(List UInt8×aX)=>((e.1:Int),tG (A.queue e.2.1) e.2.2)) (iJ hg));rw[bw];exact⟨some ⟨A.queue v.1,0,none⟩,v.2.seq,v.2.key,v.2.body,v.2.again,rfl,by rw[Gt,hg];rfl⟩
 obtain⟨x1,x2,x3,x4,x5,hv1,lH⟩:=dk;rw[if_pos rfl,hv1,lH];refine ag ?_;refineλb9 oJ=>?_;refine ag ?_;refine tD _ _ _ (r5 _ _ H ?_ ?_ ?_ ?_ ?_ ?_ ?_ ?_)
 ·first|exact a3.fresh oJ _|(rw[Hp.set_set];exact a3.fresh oJ _)
 all_goals simp only[go_sem,seval,eme]
end
def DN(r:Nat):Bool:=(decide (97<=r)&&decide (r<=122))||(decide (65<=r)&&decide (r<=90))
def wN(r:Nat):Bool:=decide (48<=r)&&decide (r<=57)
def pS(r:Nat):Bool:=decide (r<128)&&(DN r||(wN r||(decide (r=46)||(decide (r=95)||decide (r=45)))))
def ao8:∀r:_root_.Fin 128,(decide (¬B3 IntKind.u8 (Go.Lib.propertiesTab.getD r.val 0) 96=0))=DN r.val:=ir
def To(b:UInt8):okB b=pS b.toNat:=by unfold okB pS DN wN;rw[Bool.eq_iff_iff];simp only[Bool.or_eq_true,Bool.and_eq_true,decide_eq_true_eq];omega
variable {s:List UInt8}{p:Nat}
def aal(hp:p<s.length)(h:s[p].toNat<128):Utf8.decode (B s) p=(s[p].toNat,1):=by
 have e:((B s).get! (p+0)).toNat=s[p].toNat:=by simp[B,ByteArray.get!,hp]
 unfold Utf8.decode;simp only[e];rw[if_pos h]
def decode_high(hp:p<s.length)(h:¬s[p].toNat<128):128<=(Utf8.decode (B s) p).1:=by
 have e:((B s).get! (p+0)).toNat=s[p].toNat:=by simp[B,ByteArray.get!,hp]
 have re:128<=Utf8.runeError:=ai;unfold Utf8.decode;simp only[e];rw[if_neg h];split
 ·split
  ·assumption
  ·exact re
 ·split
  ·split
   ·rename_i h1;simp only[Bool.and_eq_true,decide_eq_true_eq,ge_iff_le]at h1|-;omega
   ·exact re
  ·split
   ·split
    ·rename_i h1;simp only[Bool.and_eq_true,decide_eq_true_eq,ge_iff_le]at h1|-;omega
    ·exact re
   ·exact re
variable {E:Env prog}{σ:Hp}{f:FR}{L:List Value}{r:Nat}
def aiz(hr:r<128)(hp:σ.f 1=some (.cells L.toArray 396 (0,0)))(hq:L[r]? =some (.int .u8 (Go.Lib.propertiesTab.getD r 0))):ay E 300 #[.int .i32 r] σ λe τ=>e=.returned (.bool (DN r))/\τ=σ:=by
 refine fI func300 ntmps300 results300 rfl al λQ aC an aA=>?_
 have w1:IntKind.u32.wrap (r:Int)=r:=by have:((r:Int) % 4294967296)=r:=aa;simpa[IntKind.wrap,IntKind.bits,IntKind.signed]using this
 have w2:IntKind.u8.wrap (r:Int)=r:=by have:((r:Int) % 256)=r:=aa;simpa[IntKind.wrap,IntKind.bits,IntKind.signed]using this
 have c1:(r:Int)<=255:=aa;simp only[go_sem,seval,w1,w2,c1,decide_true];refine agp (e:=5) (n:=256) (b:=1) (k:=.u8) (j:=r) ah (ie:=t5) ah ah ?_ ?_ aa aa ah ?_
 ·exact au
 ·exact au
 simp only[go_sem,seval,hp,Int.toNat_natCast,hq];refine an aI ao ⟨?_,rfl⟩;simp only[up,if_true];rw[ao8 ⟨r,hr⟩]
def aau(hr:r<128):ay E 301 #[.int .i32 r] σ λe τ=>e=.returned (.bool (wN r))/\τ=σ:=by
 refine fI func301 ntmps301 results301 rfl al λQ aC an aA=>?_;have c1:(r:Int)<=255:=aa;by_cases h:48<=r
 ·have h':(48:Int)<=r:=aa;have e:decide ((r:Int)<=57)=wN r:=by unfold wN;simp[h];omega
  simp only[go_sem,seval,c1,h',decide_true,e];exact an aI ao ⟨by simp[up],rfl⟩
 ·have h':¬(48:Int)<=r:=aa;have e:wN r=false:=by unfold wN;simp[h]
  simp only[go_sem,seval,c1,h',decide_true,decide_false];exact an aI ao ⟨by simp[up,e],rfl⟩
def Sr(hp:σ.f 1=some (.cells L.toArray 396 (0,0)))(hq:∀i<128,L[i]? =some (.int .u8 (Go.Lib.propertiesTab.getD i 0))):ay E 299 #[.int .i32 r] σ λe τ=>e=.returned (.bool (pS r))/\τ=σ:=by
 refine fI func299 ntmps299 results299 rfl al λQ aC an aA=>?_;by_cases hr:r<128
 ·have c1:(r:Int)<=127:=aa;simp only[go_sem,seval,c1,decide_true];refine aR (aiz hr hp (hq r hr)) ?_
  cases hl:DN r with
  |true=>
   have e:pS r=true:=by simp[pS,hr,hl]
   refine ag ?_;exact an aI ao ⟨by simp[up,e],rfl⟩
  |false=>
   refine ag ?_;refine aR (aau hr) ?_
   cases hd:wN r with
   |true=>
    have e:pS r=true:=by simp[pS,hr,hd]
    refine ag ?_;exact an aI ao ⟨by simp[up,e],rfl⟩
   |false=>
    have e:pS r=(decide (r=46)||(decide (r=95)||decide (r=45))):=by simp[pS,hr,hl,hd]
    by_cases h1:r=46
    ·have rf:(r:Int)=46:=aa;simp only[go_sem,seval,eq_true rf,decide_true];exact an aI ao ⟨by rw[e];simp[up,h1],rfl⟩
    ·have rf:¬(r:Int)=46:=aa;by_cases h2:r=95
     ·have kK:(r:Int)=95:=aa;simp only[go_sem,seval,rf,eq_true kK,decide_true,decide_false];exact an aI ao ⟨by rw[e];simp[up,h2],rfl⟩
     ·have kK:¬(r:Int)=95:=aa;have e3:decide ((r:Int)=45)=decide (r=45):=by simp;omega
      simp only[go_sem,seval,rf,kK,decide_false,e3];exact an aI ao ⟨by simp[up,e,h1,h2],rfl⟩
 ·have c1:¬(r:Int)<=127:=aa;have e:pS r=false:=by simp[pS,hr]
  simp only[go_sem,seval,c1,decide_false];exact an aI ao ⟨by simp[up,e],rfl⟩
def ajg(hp:σ.f 1=some (.cells L.toArray 396 (0,0)))(hq:∀i<128,L[i]? =some (.int .u8 (Go.Lib.propertiesTab.getD i 0))):ay E 298 #[sV s] σ λe τ=>e=.returned (.bool (named s))/\τ=σ:=by
 refine fI func298 ntmps298 results298 rfl al λQ aC an aA=>?_;refine ag ?_;refine amD (s:=s) ah ?_ ?_
 ·exact au
 intro it hit;have n1:¬1=it:=bp hit hp;have hle:∀o,σ.le (σ.set it o):=λo=>jZ hit;refine ag ?_;refine dh (λm ρ ds ae=>ds=[]/\ρ 0=sV s/\ρ 6=pV it/\∃p:Nat,p+m=s.length/\(∀b∈s.take p,okB b=true)/\ae=σ.set it (.stringIter (B s) p)) s.length ?_ ?_
 ·refine⟨rfl,?_,?_,0,al,al,rfl⟩<;>exact au
 ·rintro m ρ ds ae X ⟨rfl,h0,h6,p,AT,fV,rfl⟩ hX
  cases m with
  |succ m=>
   have sE:p<s.length:=aa;refine ag ?_;refine S5 (s:=s) (pos':=p) h6 aY (λ_=>?_) (λh=>absurd sE h);rw[Hp.set_set];by_cases hb:s[p].toNat<128
   ·rw[aal sE hb];refine ag ?_;refine aR (Sr (by rw[Hp.az n1];exact hp) hq) ?_;rw[<-To]
    cases ho:okB s[p]with
    |true=>
     simp only[go_sem,seval,Bool.not_true];refine hX m _ _ _ _ aa ⟨rfl,?_,?_,p+1,aa,?_,rfl⟩ ao
     ·exact aK h0
     ·exact aK h6
     ·intro b hb;rw[List.take_succ_eq_append_getElem sE,List.mem_append]at hb;rcases hb with hb|hb
      ·exact fV b hb
      ·rw[List.mem_singleton.1 hb];exact ho
    |false=>
     have e:named s=false:=by
      unfold named;have:s.all okB=false:=by rw[List.all_eq_false];exact⟨s[p],List.getElem_mem sE,by simp[ho]⟩
      rw[this,Bool.and_false]
     simp only[go_sem,seval,Bool.not_false];exact an (τ:=σ) aI (hle _) ⟨by simp[up,e],rfl⟩
   ·have hr:=decode_high sE hb;obtain⟨rr,Dr⟩:∃rr,rr=(Utf8.decode (B s) p).1:=⟨_,rfl⟩;rw[<-Dr]at hr|-;refine ag ?_;refine aR (Sr (by rw[Hp.az n1];exact hp) hq) ?_;have e1:pS rr=false:=by unfold pS;rw[decide_eq_false aa];rfl
    have e:named s=false:=by
     unfold named
     have:s.all okB=false:=by rw[List.all_eq_false];refine⟨s[p],List.getElem_mem sE,?_⟩;rw[To];unfold pS;rw[decide_eq_false hb];simp
     rw[this,Bool.and_false]
    rw[e1];simp only[go_sem,seval,Bool.not_false];exact an (τ:=σ) aI (hle _) ⟨by simp[up,e],rfl⟩
  |zero=>
   refine ag ?_;refine S5 (s:=s) (pos':=p) h6 aY (λh=>absurd h aa) (λ_=>?_);have lB:s.all okB=true:=by rw[List.all_eq_true];rw[List.take_of_length_le aa]at fV;exact fV
   by_cases h1:s=[]
   ·have e:named s=false:=by unfold named;simp[h1]
    simp only[go_sem,seval,h0,eq_true h1,decide_true];exact an (τ:=σ) aI (hle _) ⟨by simp[up,e],rfl⟩
   ·have e:named s=decide ((s.length:Int)<=16):=by unfold named;rw[lB];simp[h1];omega
    refine bt h0 h1 ?_;exact an (τ:=σ) aI (hle _) ⟨by simp[up,e],rfl⟩
variable {ρ:av}{ds:List Deferred}{dst:Option Tmp}{nx:av->List Deferred->Hp->Prop}{pn:List PanicEntry->Hp->Prop}{P:Program}{ty:TypeId}{pos:String}{af:Array Edge}{g:Option (Nat×Bool)}{E:Env P}
def Pg{t u d:TypeId}{x y:Operand}{i j:Int}{k:IntKind}{inf:TypeInfo}(hu:∃ms,P.underlying t=some (.interface ms))(hd:P.underlying d=some (.int k))(hi:P.info? d=some inf)(hc:inf.comparable=true)(hx:ak ρ x=.iface d (iV i))(hy:ak ρ y=.iface d (iV j))(h:nx (aB ρ dst (.bool (decide (i=j)))) ds σ):wpOp E ⟨dst,.binOp .eql t x y u,ty,pos,af,g⟩ ρ ds σ nx pn:=by
 unfold wpOp;simp only[execOp,hx,hy,aH];refine yy ?_ ⟨al,al⟩;unfold binOp;simp only[aH,bq];obtain⟨ms,hu⟩:=hu;show wpS P (Op.equalIn (9998+1+1) t _ _) _ _ σ;unfold Op.equalIn;simp only[aH,dZ,hu,ne_eq,not_true_eq_false,if_false,fQ,hi,hc,Bool.not_true,Bool.false_eq_true];unfold Op.equalIn;simp only[aH,dZ,hd,if_true,bq];have e:(i==j)=decide (i=j):=by by_cases h:i=j<;>simp[h]
 rw[e];exact h
section
variable {E:Env prog}{H:Hid}{n:N}{X:Ext}{σ:Hp}{c:CN}{nm:List UInt8}{q:QN}{f:FR}
variable {A:Lay}{id:Int}
def aaj (a:aq A H n X σ)(w:Wf n):
 ay E 286 #[pV A.br,sV nm] σ λe τ=>(∃q,n.q? nm=some q/\e=.returned (.tuple #[pV (A.queue nm),.nilIface])/\τ=σ)\/
  (n.q? nm=none/\named nm=false/\e=.returned (.tuple #[.pointer none,.iface 215 (iV 502)])/\aq A H n X τ)\/
  (n.q? nm=none/\named nm=true/\n.aN.length=8/\e=.returned (.tuple #[.pointer none,.iface 215 (iV 506)])/\aq A H n X τ)\/
  (n.q? nm=none/\named nm=true/\n.aN.length≠8/\∃b H',e=.returned (.tuple #[pV b,.nilIface])/\aq (A.sZ nm b) H' {n with aN:=cV cL n.aN nm ⟨[],0,0,[]⟩} X τ):=by
 refine aW func286 ntmps286 results286 λQ aC an aA=>?_;obtain⟨l,k,h1,h2,h3⟩:=a.mq;have hlen:l.length=n.aN.length:=by have:=h3.length_eq;simpa using this
 refine aG a.tp ?_;refine jM (b:=A.mq) (k:=nm) (l:=l) (c:=k) vN (z:=.pointer none) ah ?_ h1 ?_ ?_
 ·exact au
 ·exact au
 rw[if_neg Bool.false_ne_true]
 cases hq:n.q? nm with
 |some q=>
  obtain⟨st,bw⟩:=rE h2 h3 (List.mem_map_of_mem (f:=λe:List UInt8×QN=>(e.1,pV (A.queue e.1))) (iJ hq));have dk:((dn l nm).map (·.2.1)).getD (.pointer none)=pV (A.queue nm):=by rw[bw];rfl
  rw[dk];refine ag ?_;exact an iT ao (.inl ⟨q,hq,by simp[up],rfl⟩)
 |none=>
  have bw:=map_none h3 (k:=nm) (λe he=>by obtain⟨y,hy,rfl⟩:=List.mem_map.1 he;exact iK hq y hy);have dk:((dn l nm).map (·.2.1)).getD (.pointer none)=.pointer none:=by rw[bw];rfl
  rw[dk];refine ag ?_;refine aR (ajg a.b1 A.tab) ?_
  cases jo:named nm with
  |false=>
   simp only[go_sem,seval,Bool.not_false];exact an iT ao (.inr (.inl ⟨hq,jo,by simp[up],a⟩))
  |true=>
   simp only[go_sem,seval,Bool.not_true,a.tp];refine GS vN ?_ h1 ?_
   ·exact au
   by_cases h8:n.aN.length=8
   ·have Jg:(l.length:Int)=8:=aa;simp only[go_sem,seval,eq_true Jg,decide_true];exact an iT ao (.inr (.inr (.inl ⟨hq,jo,h8,by simp[up],a⟩)))
   ·have Jg:¬(l.length:Int)=8:=aa;simp only[go_sem,seval,Jg,decide_false];refineλb hb=>?_;have a1:=λo=>a.fresh hb o;have f1:=λo=>(a1 o).tp;refine aG f1 ?_;refine Ba (b:=A.mq) (k:=nm) vN h2.uniq ?_ (jZ hb _ _ h1) ?_ ?_
    ·exact au
    ·exact au
    obtain⟨d1,d2⟩:=D1 h2 h3 (k:=nm) (λe he=>by obtain⟨y,hy,rfl⟩:=List.mem_map.1 he;exact iK hq y hy) (pV b);refine ag ?_;refine an iT ao (.inr (.inr (.inr ⟨hq,jo,h8,b,_,by simp[up],a.aju w hq hb ⟨_,_,rfl,d1,?_⟩⟩)));refine d2.trans (List.Perm.symm ?_);refine((uU (lt:=cL) n.aN nm ⟨[],0,0,[]⟩).map _).trans ?_;simp only[List.map_cons,Lay.sZ,if_true];refine List.Perm.cons _ (List.Perm.of_eq (List.map_congr_left λe he=>?_));rw[if_neg (λx=>by have:=iK hq e he;exact this x)]
end
end Go.Qw
