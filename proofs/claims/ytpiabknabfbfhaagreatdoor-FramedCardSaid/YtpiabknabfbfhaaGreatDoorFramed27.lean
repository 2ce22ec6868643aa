/- 27 -/
import Derived.Test.YtpiabknabfbfhaaGreatDoorFramed26
set_option linter.all false
set_option maxRecDepth 100000
set_option maxHeartbeats 8000000
namespace Go.Qw
open Go Go.Conc Go.Proofs Go.Proofs.Tryz
def Er.ext(er:Er)(b:Nat):Ext:=match er with
 | .nil=>[]
 | .soft e cl me| .cA e cl me=>[(b,tG e cl me)]
def Er.v(er:Er)(b:Nat):Value:=match er with
 | .nil=>.nilIface
 | .soft _ _ _=>.iface 296 (.agg #[pV b])
 | .cA _ _ _=>.iface 214 (pV b)
structure qi (A A':Lay):Prop where
 gw:A'.gw=A.gw
 br:A'.br=A.br
 conn:A'.conn=A.conn
def qi.refl(A:Lay):qi A A:=⟨rfl,rfl,rfl⟩
def iw(A:Lay)(X:Ext)(n:N)(bf:Nat)(f:FR)(r:HO)(e:Fin)(R:Hp):Prop:=match r with
 | .ok n' er=>∃A' H' b f',e=.returned (er.v b)/\qi A A'/\aq A' H' n' (er.ext b++(bf,bN f')::X) R
 | .bad cl me=>∃H' s,e=.panicked lH/\aq A H' n ((bf,bN {f with s:=s,cl:=cl,me:=me})::X) R
section
variable {E:Env prog}{H:Hid}{n:N}{X:Ext}{U:Hp}{no:Nat}{c:CN}{h:HN}{nm:List UInt8}{q:QN}{bf:Nat}{f:FR}{I:av}{ds:List Deferred}{dst:Option Tmp}{nx:av->List Deferred->Hp->Prop}{pn:List PanicEntry->Hp->Prop}
variable {A:Lay}{id:Int}
def aq.eN (a:aq A H n ((bf,bN f)::X) U):U.f bf=some (.cells [iV f.u.kind,iV f.u.channel,sV f.u.gL,.bool f.u.jf,.bool f.u.fB,sV f.s,iV f.cl,iV f.me].toArray 293 (0,0)):=a.ei
def iG {α:Type}{g:FuncId}{args:Array Value}{fv:α->Value}{r:Option (α×List UInt8)}(hg:cq prog g=true)(a:aq A H n ((bf,bN f)::X) U)(h:aw E g args U (ri U bf 5 f.vals 293 fv r))
 (k:∀v rest R,r=some (v,rest)->aq A H n ((bf,bN {f with s:=rest})::X) R->nx (aA I dst (fv v)) ds R) (kp:r=none->∀s R,aq A H n ((bf,bN {f with s:=s})::X) R->pn lH R):jJ E g args U dst I ds nx pn:=
 B6 hg h (λv rest hr=>k v rest _ hr (a.uL (bN {f with s:=rest}))) (λhr l=>kp hr l _ (a.uL (bN {f with s:=l})))
def qk (a:aq A H n ((bf,bN f)::X) U)(k:f.s=[]->nx (aA I dst (.tuple #[])) ds U)(kp:f.s≠[]->pn lH U):jJ E 229 #[.pointer (some ⟨bf,5,none⟩)] U dst I ds nx pn:=by
 by_cases hs:f.s=[]
 ·refine bz (Pj a.eN (by rw[hs];rfl)) (k hs)
 ·exact OB acR (abe a.eN rfl hs) (kp hs)
def jL {e cl me:Nat}(a:aq A H n ((bf,bN f)::X) U)(aK:f.cl=(cl:Int))(aN:f.me=(me:Int)):
 aw E 189 #[pV bf,iV e] U λe' R=>∃b,e'=.returned ((Er.cA e cl me).v b)/\aq A H n ((Er.cA e cl me).ext b++(bf,bN f)::X) R:=by
 refine(abB (e:=(e:Int)) a.ei).mono ?_;rintro e' R ⟨b,rfl,hb,rfl⟩;rw[aK,aN];exact⟨b,rfl,a.iE hb _⟩
def wI {e cl me:Nat}(a:aq A H n ((bf,bN f)::X) U)(aK:f.cl=(cl:Int))(aN:f.me=(me:Int)):
 aw E 266 #[pV bf,.iface 215 (iV e)] U λe' R=>∃b,e'=.returned ((Er.soft e cl me).v b)/\aq A H n ((Er.soft e cl me).ext b++(bf,bN f)::X) R:=by
 refine aX func266 ntmps266 results266 λQ aB al az=>?_;have hf:=a.eN;rw[aK,aN]at hf;refine ag ?_;refine bJ 14 ?_;refine aH hf ?_;refine⟨dL hf,?_⟩;refine ag ?_;refineλb hb=>?_;have a1:=λo=>a.iE hb o;have f1:=λo=>(a1 o).ext1;simp only[bN,FR.vals,aK,aN]at f1;refine⟨dL f1,?_⟩;refine ag ?_;refine⟨dL f1,?_⟩;exact al aG ao ⟨b,by simp[up,Er.v],a1 _⟩
def I9 (a:aq A H n X U)(hq:n.q? nm=some q):aw E 287 #[pV A.br,sV nm] U λe R=>e=.returned (.tuple #[pV (A.queue nm),.nilIface])/\R=U:=by obtain⟨l,c,h1,h2,h3⟩:=a.mq;obtain⟨st,bt⟩:=rP h2 h3 (List.mem_map_of_mem (f:=λe:List UInt8×QN=>(e.1,pV (A.queue e.1))) (gI hq));exact abO a.br h1 bt
def I8 (a:aq A H n X U)(hq:n.q? nm=none):aw E 287 #[pV A.br,sV nm] U λe R=>e=.returned (.tuple #[.pointer none,.iface 215 (iV 404)])/\R=U:=by
 obtain⟨l,c,h1,h2,h3⟩:=a.mq;have bt:=map_none h3 (k:=nm) (λe he=>by obtain⟨y,hy,rfl⟩:=List.mem_map.1 he;exact iF hq y hy);refine eY func287 ntmps287 results287 rfl ak λQ aB al az=>?_;simp only[go_sem,seval,a.tE];refine jU (b:=A.mq) (k:=nm) (l:=l) (c:=c) vT (z:=.pointer none) ah ?_ h1 ?_ ?_
 ·simp only[go_sem,seval]
 ·simp only[go_sem,seval];rfl
 have dr:((dt l nm).map (·.2.1)).getD (.pointer none)=.pointer none:=by rw[bt];rfl
 simp only[go_sem,seval,dr,Bool.false_eq_true];exact al iT ao ⟨by simp[up],rfl⟩
def alW (a:aq A H n X U)(hq:n.q? nm=some q):aw E 288 #[pV (A.queue nm)] U λe R=>e=.returned (iV q.ready.length)/\At A (n.bF nm λq=>{q with ready:=[]}) X R:=by refine aX func288 ntmps288 results288 λQ aB al az=>?_;obtain⟨b,c,gZ⟩:=(a.eQ hq).shape;have hf:=a.th hq;rw[gZ]at hf;refine aH hf ?_;exact al aG ao ⟨by simp[up],_,a.akj hq (λq=>{q with ready:=[]}) rfl rfl⟩
def alX {cl me:Nat}(a:aq A H n ((bf,bN f)::X) U)(hc:n.ar id=some c)(hh:n.h? id no=some h)(aK:f.cl=(cl:Int))(aN:f.me=(me:Int))(eV:no<1000000)(fK:c.r.out.length<=100000000000000)(jh:∀nm q,n.q? nm=some q->q.ready.length<=1000):
 aw E 269 #[pV (A.chan id no),pV bf] U (iw A X n bf f (n.lU id no f.s cl me)):=by
 refine aX func269 ntmps269 results269 λQ aB al az=>?_;refine ag ?_;refine iG sA a (tq a.eN rfl) (λnm rest R hr a1=>?_) (λhr s R a1=>az _ _ _ _ ao ?_)
 rotate_left
 ·have e:n.lU id no f.s cl me=.bad cl me:=by unfold N.lU;rw[hr]
  rw[e];exact⟨H,s,rfl,by rw[<-aK,<-aN];exact a1⟩
 refine ag ?_;refine qk a1 (λhs=>?_) (λhs=>az _ _ _ _ ao ?_)
 rotate_left
 ·have e:n.lU id no f.s cl me=.bad cl me:=by
   unfold N.lU;rw[hr];simp only at hs;cases rest with
   |nil=>exact absurd rfl hs
   |cons x l=>rfl
  rw[e];exact⟨H,rest,rfl,by rw[<-aK,<-aN];exact a1⟩
 simp only at hs;subst hs;refine bR (a1.bV hh) (a1.eC hc) a1.jM ?_
 cases hq:n.q? nm with
 |none=>
  have e:n.lU id no f.s cl me=.ok n (.soft 404 cl me):=by unfold N.lU;rw[hr];simp only[hq]
  refine bz (I8 a1 hq) ?_;refine ag ?_;refine aJ (wI (e:=404) a1 aK aN) ?_;rintro v cU ⟨b,hv,a2⟩
  cases hv
  refine ag ?_;refine al aG ao ?_;rw[e];exact⟨A,H,b,_,by simp[up],.refl A,a2⟩
 |some q=>
  have e:n.lU id no f.s cl me=.ok ((n.bF nm λq=>{q with ready:=[]}).send id (cg no 50 31 [.long q.ready.length])) .nil:=by unfold N.lU;rw[hr];simp only[hq]
  refine bz (I9 a1 hq) ?_;refine ag ?_;refine bJ 13 ?_;refine aH (a1.bV hh) ?_;refine aJ (alW a1 hq) ?_;rintro v cU ⟨hv,H2,a2⟩
  cases hv
  have fi:(n.bF nm λq=>{q with ready:=[]}).h? id no=some h:=hh;have dU:(n.bF nm λq=>{q with ready:=[]}).ar id=some c:=hc;refine⟨by(repeat(first|exact jA|(apply jz;(focus decide+kernel))|(refine lf rfl (aP (a2.bV fi)) ?_))),?_⟩;refine ag ?_;refineλbn cE=>?_;have a3:=λo=>a2.fresh cE o;have f3:=λo=>(a3 o).bV fi;refine⟨dL f3,?_⟩;refine ag ?_;have Du:=jh nm q hq;refine aJ (pI (ch:=no) (cl:=50) (me:=31) (xs:=[.long q.ready.length]) (a3 _) dU (.inr ⟨bn,rfl,aT⟩) ?_ ak aa an an (by simp[bZ,dC,cB]) aa) ?_
  ·simp[kP];omega
  rintro v gH ⟨hv,a4⟩
  cases hv
  have Kb:((n.bF nm λq=>{q with ready:=[]}).send id (cg no 50 31 [.long q.ready.length])).h? id no=some h:=by rw[pO];exact fi
  refine⟨by(repeat(first|exact jA|(apply jz;(focus decide+kernel))|(refine lf rfl (aP (a4.bV Kb)) ?_))),?_⟩;refine ag ?_;refine al aG ao ?_;rw[e];exact⟨A,H2,0,_,by simp[up,Er.v],.refl A,a4⟩
end
section
variable {E:Env prog}{H:Hid}{n:N}{X:Ext}{U:Hp}{no:Nat}{c:CN}{h:HN}{q:QN}{bf:Nat}{f:FR}{I:av}
variable {A:Lay}{id:Int}
def aac (f:List UInt8×Int->Value)(tg:List UInt8)(co:List (List UInt8×Int)):((co.map λe=>(e.1,f e)).filter λe=>decide (e.1≠tg))=(cH co tg).map λe=>(e.1,f e):=by unfold cH;rw[List.filter_map];congr 1
def Zu {cl me:Nat}(a:aq A H n ((bf,bN f)::X) U)(hc:n.ar id=some c)(hh:n.h? id no=some h)(aK:f.cl=(cl:Int))(aN:f.me=(me:Int))(eV:no<1000000)(fK:c.r.out.length<=100000000000000)
 (hk:∀tg k,bw h.co tg=some k->E1 n k) (hs:f.s.length<=1000000):
 aw E 271 #[pV (A.chan id no),pV bf] U (iw A X n bf f (n.mH id no h f.s cl me)):=by
 refine aX func271 ntmps271 results271 λQ aB al az=>?_;refine ag ?_;refine iG sA a (tq a.eN rfl) (λtg rest R hr a1=>?_) (λhr s R a1=>az _ _ _ _ ao ?_)
 rotate_left
 ·have e:n.mH id no h f.s cl me=.bad cl me:=by unfold N.mH;rw[hr]
  rw[e];exact⟨H,s,rfl,by rw[<-aK,<-aN];exact a1⟩
 refine ag ?_;refine qk a1 (λhs=>?_) (λhs=>az _ _ _ _ ao ?_)
 rotate_left
 ·have e:n.mH id no h f.s cl me=.bad cl me:=by
   unfold N.mH;rw[hr];simp only at hs;cases rest with
   |nil=>exact absurd rfl hs
   |cons x l=>rfl
  rw[e];exact⟨H,rest,rfl,by rw[<-aK,<-aN];exact a1⟩
 simp only at hs;subst hs;have e:n.mH id no h f.s cl me=.ok ((n.nJ id no h tg).send id (cg no 60 31 [.text tg])) .nil:=by unfold N.mH;rw[hr]
 have RG:tg.length<=1000000:=by
  unfold jm eP at hr;split at hr
  ·simp only[Option.bind_some,xN]at hr;split at hr
   ·simp only[Option.some.injEq,Prod.mk.injEq]at hr;rw[<-hr.1,List.length_take,List.length_drop];omega
   ·cases hr
  ·cases hr
 obtain⟨l,kk,fI,gX,iq⟩:=a1.co hh
 have tail:∀{H2:Hid} {n2:N} {cU:Hp} {I:av} {h2:HN} {c2:CN},aq A H2 n2 ((bf,bN {f with s:=[]})::X) cU->n2.h? id no=some h2->n2.ar id=some c2->c2.r.out.length<=100000000000000->n2=n.nJ id no h tg->I 0=pV (A.chan id no)->I 5=sV tg->
  cO E 52 (bM (aO (aO (aO (aO (f271.body.getD .skip)))))) (lz (cO E 52 (aO (aO (aO (aO (aO (f271.body.getD .skip)))))) Q) Q) I [] cU:=by
  intro H2 n2 cU I h2 c2 a2 fi dU y9 xr h0 h5;simp only[f271,Option.getD_some,aO,bM];refine bJ 12 ?_;refine bR h0 h5 (a2.bV fi) ?_;refineλbn cE=>?_;have a3:=λo=>a2.fresh cE o;have f3:=λo=>(a3 o).bV fi;refine⟨dL f3,?_⟩;refine ag ?_;refine aJ (pI (ch:=no) (cl:=60) (me:=31) (xs:=[.text tg]) (a3 _) dU (.inr ⟨bn,rfl,aT⟩) (by simp[kP]) ak aa an an (by simp[bZ,dC,cB];omega) aa) ?_;rintro v gH ⟨hv,a4⟩
  cases hv
  have f4:=a4.bV (h:=h2) (by rw[pO];exact fi);refine⟨dF h0 h5 f4,?_⟩;refine ag ?_;refine al aG ao ?_;rw[e,<-xr];exact⟨A,H2,0,_,by simp[up,Er.v],.refl A,a4⟩
 refine aH (a1.bV hh) ?_;refine jU (b:=A.co id no) (k:=tg) (l:=l) (c:=kk) zl (z:=.pointer none) ah ?_ fI ?_ ?_
 ·exact au
 ·exact au
 rw[if_neg Bool.false_ne_true]
 cases hg:bw h.co tg with
 |none=>
  have dr:((dt l tg).map (·.2.1)).getD (.pointer none)=.pointer none:=by rw[map_none iq (k:=tg) (λe he=>by obtain⟨y,hy,rfl⟩:=List.mem_map.1 he;exact iF hg y hy)];rfl
  rw[dr];refine ag ?_;refine tail a1 hh hc fK (by unfold N.nJ;rw[hg]) ?_ ?_
  ·exact au
  ·exact au
 |some k=>
  obtain⟨st,bt⟩:=rP gX iq (List.mem_map_of_mem (f:=λe:List UInt8×Int=>(e.1,pV (A.cons e.2))) (gI hg));have dr:((dt l tg).map (·.2.1)).getD (.pointer none)=pV (A.cons k):=by rw[bt];rfl
  obtain⟨x,q,hx,hq,Du,oY⟩:=hk tg k hg;rw[dr];refine bR (a1.bV hh) (a1.eC hc) a1.jM ?_;refine aJ (OF a1 oY hx hq Du) ?_;rintro v cU ⟨hv,H2,a2⟩
  cases hv
  have fi:(n.cancel k).h? id no=some h:=by rw[Qo];exact hh
  obtain⟨l2,k2,oW,yX,yY⟩:=a2.co fi;refine aH (a2.bV fi) ?_;refine Cg (b:=A.co id no) (k:=tg) (l:=l2) (c:=k2) zl yX.uniq ?_ oW ?_ ?_
  ·exact au
  ·exact au
  obtain⟨d1,d2⟩:=D6 yX yY tg;have a3:=a2.Mj fi (λh=>{h with co:=cH h.co tg}) rfl rfl (o:=aU bP (rQ l2 tg) k2) ⟨_,_,rfl,d1,by simp only;rw[<-aac (f:=λe=>pV (A.cons e.2)) (tg:=tg)];exact d2⟩;refine ag ?_;refine tail a3 (h2:={h with co:=cH h.co tg}) (c2:={c with ch:=dw c.ch no λh=>{h with co:=cH h.co tg}}) (by simp[hh]) (by simp[hc]) fK (by unfold N.nJ;rw[hg]) ?_ ?_
  ·exact au
  ·exact au
end
section
variable {E:Env prog}{H:Hid}{n:N}{X:Ext}{U:Hp}{no:Nat}{c:CN}{h:HN}{nm:List UInt8}{q:QN}{bf:Nat}{f:FR}{I:av}{ds:List Deferred}
variable {A:Lay}{id:Int}
def alr {w:Nat}{s:List UInt8}{r:Nat×List UInt8}(h:eP w s=some r):r.2.length+w=s.length:=by
 unfold eP at h;split at h
 ·cases h;simp;omega
 ·cases h
def als {s:List UInt8}{r:List UInt8×List UInt8}(h:jm s=some r):r.1.length+r.2.length+1=s.length:=by
 unfold jm at h;obtain⟨x,h1,h2⟩:=Option.bind_eq_some_iff.1 h;have:=alr h1;unfold xN at h2;split at h2
 ·cases h2;simp;omega
 ·cases h2
def Ia (n:N)(h:HN):Prop:=(0<=h.r.tag/\h.r.tag<=1000000000000)/\(∀e∈h.un,(e.1:Int)≠h.r.tag+1)/\∀nm q,n.q? nm=some q->(0<=q.held/\q.held<=1000000)/\q.ready.length<=1000/\∀m∈q.ready,m.body.length<=100000/\m.key.length<=1000
def acw {cl me fr:Nat}(a:aq A H n ((bf,bN f)::X) U)(hc:n.ar id=some c)(hh:n.h? id no=some h)(aK:f.cl=(cl:Int))(aN:f.me=(me:Int))(eV:no<1000000)(fK:c.r.out.length<=100000000000000)
 (gU:c.r.frame=(fr:Int)) (f1:9<=fr/\fr<=1000000) (G:Ia n h):
 aw E 272 #[pV (A.chan id no),pV bf] U (iw A X n bf f (n.get id no f.s cl me)):=by
 refine aX func272 ntmps272 results272 λQ aB al az=>?_;refine ag ?_;refine xW [0,1,2,4,5,6,3,7,8,9] (λch ds U=>ds=[]/\(iw A X n bf f (n.get id no f.s cl me)) (.panicked ch) U) ah kE (λch I ds U h=>by obtain⟨rfl,h⟩:=h;exact az _ _ _ _ ao h) ?_;refine ag ?_;refine iG sA a (tq a.eN rfl) (λnm s1 R hr a1=>?_) (λhr s R a1=>⟨rfl,?_⟩)
 rotate_left
 ·have e:n.get id no f.s cl me=.bad cl me:=by unfold N.get;rw[hr]
  rw[e];exact⟨H,s,rfl,by rw[<-aK,<-aN];exact a1⟩
 refine fL ?_;refine ag ?_;refine iG Jk a1 (Ja a1.eN rfl) (λna s2 fP bX a2=>?_) (λbX s R a2=>⟨rfl,?_⟩)
 rotate_left
 ·have e:n.get id no f.s cl me=.bad cl me:=by unfold N.get;rw[hr];simp only[bX]
  rw[e];exact⟨H,s,rfl,by rw[<-aK,<-aN];exact a2⟩
 simp only at bX;refine fL ?_;refine ag ?_;refine qk a2 (λhs=>?_) (λhs=>az _ _ _ _ ao ?_)
 rotate_left
 ·have e:n.get id no f.s cl me=.bad cl me:=by
   unfold N.get;rw[hr];simp only[bX];simp only at hs;cases s2 with
   |nil=>exact absurd rfl hs
   |cons x l=>rfl
  rw[e];exact⟨H,s2,rfl,by rw[<-aK,<-aN];exact a2⟩
 simp only at hs;subst hs;obtain⟨g1,g2,g3⟩:=G;refine bR (a2.bV hh) (a2.eC hc) a2.jM ?_
 cases hq:n.q? nm with
 |none=>
  have e:n.get id no f.s cl me=.ok n (.soft 404 cl me):=by unfold N.get;rw[hr];simp only[bX,hq]
  refine bz (I8 a2 hq) ?_;refine ag ?_;refine aJ (wI (e:=404) a2 aK aN) ?_;rintro v cU ⟨b,hv,a3⟩
  cases hv
  refine ag ?_;refine al aG ao ?_;rw[e];exact⟨A,H,b,_,by simp[up],.refl A,a3⟩
 |some q=>
  obtain⟨q1,q2,q3⟩:=g3 nm q hq;refine bz (I9 a2 hq) ?_;refine ag ?_
  cases gq:q.ready with
  |nil=>
   have e:n.get id no f.s cl me=.ok (n.send id (cg no 60 72 [])) .nil:=by unfold N.get;rw[hr];simp only[bX,hq,gq]
   obtain⟨rb,rc,gZ⟩:=(a2.eQ hq).shape;have mj:=a2.queue hq;rw[gZ,gq]at mj;refine aJ (ajO (b:=rb) (c:=rc) mj) ?_;rintro v cU ⟨hv,hle⟩;obtain rfl:v=.tuple #[.agg #[iV 0,sV [],sV [],.bool false],.bool false]:=by injection hv
   simp only[go_sem,seval];refineλb9 mN=>?_;simp only[go_sem,seval];rw[Hp.set_set];have a3:=λo=>(a2.le hle).fresh mN o;have f3:=λo=>(a3 o).bV hh;refine bJ 9 ?_;refine aH f3 ?_;refine aJ (pI (ch:=no) (cl:=60) (me:=72) (xs:=[]) (a3 _) hc (.inl ⟨rfl,rfl⟩) ak ak aa an an (by simp[bZ]) aa) ?_;rintro v gH ⟨hv,a4⟩
   cases hv
   have f4:=a4.bV (h:=h) (by rw[pO];exact hh);refine⟨dL f4,?_⟩;refine ag ?_;refine al aG ao ?_;rw[e];exact⟨A,H,0,_,by simp[up,Er.v],.refl A,a4⟩
  |cons m ms=>
   obtain⟨tg,AX⟩:∃tg:Nat,h.r.tag=(tg:Int):=⟨h.r.tag.toNat,aa⟩;have I0:h.r.tag+1=((tg+1:Nat):Int):=aa;have tU:ms.length<=1000:=by have:=congrArg List.length gq;simp only[List.length_cons]at this;omega
   obtain⟨m1,m2⟩:=q3 m (by rw[gq];simp);refine aJ (S9 a2 hq gq tU) ?_;rintro v cU ⟨hv,H3,a3⟩;obtain rfl:v=.tuple #[.agg #[iV m.seq,sV m.key,sV m.body,.bool m.again],.bool true]:=by injection hv
   simp only[go_sem,seval];refineλb9 mN=>?_;simp only[go_sem,seval];rw[Hp.set_set];have a4:=λo=>a3.iE mN o;have x4:=λo=>(a4 o).ei;simp only at x4;have lM:(n.bF nm λq=>{q with ready:=q.ready.tail}).q? nm=some {q with ready:=q.ready.tail}:=by rw[uH,if_pos rfl,hq];rfl
   have yR:(n.bF nm λq=>{q with ready:=q.ready.tail}).h? id no=some h:=hh;have kT:(n.bF nm λq=>{q with ready:=q.ready.tail}).ar id=some c:=hc;refine ag ?_;refine aJ (QA (m:=m) (na:=na) (a4 _) yR lM g1 q1 g2) ?_;rintro v dA ⟨hv,a5⟩;obtain rfl:v=iV ((tg+1:Nat):Int):=by rw[<-I0];injection hv
   generalize hN:n.bF nm (λq=>{q with ready:=q.ready.tail})=n3 at a5 lM yR kT;obtain⟨c6,im,sz⟩:=OU (n:=n3) (no:=no) (nm:=nm) (m:=m) (na:=na) kT;obtain⟨h6,oV,eh6⟩:=Qp (n:=n3) (nm:=nm) (m:=m) (na:=na) yR;obtain⟨q6,tZ,eq6⟩:=TM (n:=n3) (id:=id) (no:=no) (nm:=nm) (m:=m) (na:=na) lM;have RA:q6.ready.length=ms.length:=by rw[eq6];simp[gq]
   have x5:=a5.ei;simp only at x5;refine ag ?_;refine bJ 21 ?_;refine bq (a5.bV oV) x5 ?_;obtain⟨rb,rc,gZ⟩:=(a5.eQ tZ).shape;have Ry:=a5.queue tZ;rw[gZ]at Ry;refine bz (Md Ry) ?_;refine⟨by(repeat(first|exact jA|(apply jz;(focus decide+kernel))|(refine lf rfl (wL (a5.bV oV) x5) ?_))),?_⟩;refine ag ?_;refineλbn cE=>?_;have a7:=λo=>a5.fresh cE o;have x7:=λo=>(a7 o).ei;simp only at x7;have h7:=λo=>(a7 o).bV oV;refine⟨dL h7,?_⟩;refine ag ?_;refine aJ (pI (ch:=no) (cl:=60) (me:=71) (xs:=[.ng (tg+1),.flag m.again,.text m.key,.long ms.length]) (a7 _) im (.inr ⟨bn,by rw[<-RA];rfl,by rw[<-RA];exact Hp.bD _ _⟩) ?_ ak aa an an ?_ (by rw[sz];omega)) ?_
   ·simp[kP];omega
   ·simp[bZ,dC,cB];omega
   rintro v τ8 ⟨hv,a8⟩
   cases hv
   have aem:(cg no 60 71 [.ng (tg+1),.flag m.again,.text m.key,.long ms.length]).length<=3000:=by rw[ID];simp[bZ,dC,cB];omega
   generalize hS:cg no 60 71 [.ng (tg+1),.flag m.again,.text m.key,.long ms.length]=S at a8 aem;have C6:((n3.hand id no nm m na).send id S).h? id no=some h6:=by rw[pO];exact oV
   have yP:((n3.hand id no nm m na).send id S).ar id=some {c6 with r:={c6.r with out:=c6.r.out++S,ib:=(n3.hand id no nm m na).clock}}:=by rw[sw,if_pos rfl,im];rfl
   have x8:=a8.ei;simp only at x8;have h8:=a8.bV C6;have f8:=a8.eC yP;simp only[sz,gU]at f8;refine⟨iP h8 x8,?_⟩;refine ag ?_;refine bJ 19 ?_;refine bR h8 x8 f8 ?_;refine bz (OX (ch:=no) (size:=fr) (body:=m.body) aa f1.1 f1.2 aa) ?_;refine⟨dL h8,?_⟩;refine ag ?_
   have aer:(lI no m.body fr).length<=1000000:=by unfold lI;have:=TF no (fr-8) aa m.body.length m.body (Nat.le_refl _);simp only[List.length_append,qy,cB];omega
   refine aJ (Mh (s:=lI no m.body fr) a8 yP (by simp only[List.length_append,sz];omega)) ?_;rintro v uW ⟨hv,a9⟩
   cases hv
   have x9:=a9.ei;simp only at x9;have Kc:(((n3.hand id no nm m na).send id S).send id (lI no m.body fr)).h? id no=some h6:=by rw[pO];exact C6
   obtain⟨c9,CX,IX⟩:∃c9,(((n3.hand id no nm m na).send id S).send id (lI no m.body fr)).ar id=some c9/\c9.r.frame=fr:=by rw[sw,if_pos rfl,yP];exact⟨_,rfl,by simp only;rw[sz];exact gU⟩
   have h9:=a9.bV Kc;have f9:=a9.eC CX;rw[IX]at f9;refine⟨dF h9 x9 f9,?_⟩;refine ag ?_;refine al aG ao ?_
   have e:n.get id no f.s cl me=.ok (((n3.hand id no nm m na).send id S).send id (lI no m.body fr)) .nil:=by
    unfold N.get;rw[hr];have e1:n.tag id no=tg:=by unfold N.tag;rw[hh];simp[AX]
    have e2:(n3.hand id no nm m na).frame id=fr:=by unfold N.frame;rw[im];simp[sz,gU]
    simp only[bX,hq,gq,N.give,e1,hN,e2,hS]
   rw[e];exact⟨A,H3,0,_,by simp[up,Er.v],.refl A,a9.oL⟩
end
section
variable {E:Env prog}{H:Hid}{n:N}{X:Ext}{U:Hp}{no:Nat}{c:CN}{h:HN}{nm:List UInt8}{q:QN}{bf:Nat}{f:FR}{I:av}{ds:List Deferred}{nx:av->List Deferred->Hp->Prop}{pn:List PanicEntry->Hp->Prop}
variable {A:Lay}{id:Int}
def sX (tag:Nat)(many:Bool)(t:Nat):Bool:=decide (t=tag)||(many&&(decide (t<tag)||decide (tag=0)))
def anY {p:Nat->Bool}{b:Bool}{l:List (Nat×(List UInt8×aQ))}{j:Nat}(hj:j<l.length):n.jD id no p b (l.take (j+1))=if p l[j].1 then(n.jD id no p b (l.take j)).settle id no l[j].1 b else n.jD id no p b (l.take j):=by unfold N.jD;rw[List.take_succ_eq_append_getElem hj,List.foldl_append];rfl
structure H7 (n:N) (id:Int) (no:Nat) (h:HN) (p:Nat->Bool) (b:Bool):Prop where
 nd:(h.un.map (·.1)).Nodup
 sep:tA h.un
 len:h.un.length<=1000
 step:∀l e,e∈h.un->(∀x∈l,¬x.1=e.1)->p e.1=true->H6 (n.jD id no p b l) id no e
def an1 {cl me:Nat}(a:aq A H n ((bf,bN f)::X) U)(hh:n.h? id no=some h)(aK:f.cl=(cl:Int))(aN:f.me=(me:Int))
 (S:∀tag many b,H7 n id no h (sX tag many) b):
 aw E 273 #[pV (A.chan id no),pV bf] U (iw A X n bf f (n.settled id no h f.s cl me)):=by
 refine aX func273 ntmps273 results273 λQ aB al az=>?_;refine ag ?_;refine xW [0,1,2,4,5,6,8,9,10,3,7,11,12,13,14] (λch ds U=>ds=[]/\(iw A X n bf f (n.settled id no h f.s cl me)) (.panicked ch) U) ah kE (λch I ds U h=>by obtain⟨rfl,h⟩:=h;exact az _ _ _ _ ao h) ?_;refine ag ?_;refine iG nS a (oo (w:=4) a.eN rfl an) (λhigh s1 R hr a1=>?_) (λhr s R a1=>⟨rfl,?_⟩)
 rotate_left
 ·have e:n.settled id no h f.s cl me=.bad cl me:=by unfold N.settled;rw[hr]
  rw[e];exact⟨H,s,rfl,by rw[<-aK,<-aN];exact a1⟩
 refine fL ?_;refine ag ?_;refine iG nS a1 (oo (w:=4) a1.eN rfl an) (λtag s2 fP bX a2=>?_) (λbX s R a2=>⟨rfl,?_⟩)
 rotate_left
 ·have e:n.settled id no h f.s cl me=.bad cl me:=by unfold N.settled;rw[hr];simp only[bX]
  rw[e];exact⟨H,s,rfl,by rw[<-aK,<-aN];exact a2⟩
 simp only at bX;refine fL ?_;refine ag ?_;refine iG Jk a2 (Ja a2.eN rfl) (λflag s3 cU ep a3=>?_) (λep s R a3=>⟨rfl,?_⟩)
 rotate_left
 ·have e:n.settled id no h f.s cl me=.bad cl me:=by unfold N.settled;rw[hr];simp only[bX,ep]
  rw[e];exact⟨H,s,rfl,by rw[<-aK,<-aN];exact a3⟩
 simp only at ep;refine fL ?_;refine ag ?_;refine qk a3 (λhs=>?_) (λhs=>az _ _ _ _ ao ?_)
 rotate_left
 ·have e:n.settled id no h f.s cl me=.bad cl me:=by
   unfold N.settled;rw[hr];simp only[bX,ep];simp only at hs;cases s3 with
   |nil=>exact absurd rfl hs
   |cons x l=>rfl
  rw[e];exact⟨H,s3,rfl,by rw[<-aK,<-aN];exact a3⟩
 simp only at hs;subst hs;obtain⟨mC,CM⟩:∃mC:Bool,mC=decide (me=80):=⟨_,rfl⟩;obtain⟨wJ,Gx⟩:∃b:Bool,b=(bw h.un tag).isSome:=⟨_,rfl⟩;obtain⟨back,QF⟩:∃b:Bool,b=(!mC&&flag):=⟨_,rfl⟩
 have loop:∀(I:av) (R:Hp) (H1:Hid) (many:Bool),many=(mC&&flag)->aq A H1 n ((bf,bN {f with s:=[]})::X) R->I 0=pV (A.chan id no)->I 6=iV tag->I 7=.bool flag->I 8=.bool mC->I 11=.bool many->
  ((decide (high=0)&&wJ)||(many&&decide (high=0)&&decide (tag=0)))=true->
  cO E 104 (aO (aO (aO (aO (aO (aO (aO (aO (f273.body.getD .skip))))))))) Q I [] R:=by
  intro I R H1 many Dh a4 h0 h6 h7 h8 bO fU
  have e:n.settled id no h f.s cl me=.ok (n.jD id no (sX tag many) back h.un) .nil:=by
   unfold N.settled;rw[hr];simp only[bX,ep];have c1:(decide (high=0)&&(bw h.un tag).isSome||decide (me=80)&&flag&&decide (high=0)&&decide (tag=0))=true:=by rw[<-Gx,<-CM,<-Dh];exact fU
   rw[if_pos c1];have c2:decide (me≠80)= !mC:=by rw[CM];simp
   rw[c2,<-QF,<-CM,<-Dh];rfl
  simp only[f273,Option.getD_some,aO];obtain⟨lu,ku,xv,ze,xw⟩:=a4.un hh;have yW:lu.length=h.un.length:=by have:=xw.length_eq;simpa using this
  have SS:=S tag many back;refine bq h0 (a4.bV hh) ?_;refine aJ (UD xv ze.old ze.nd (by rw[yW];exact SS.len)) ?_;rintro v dA ⟨tT,v',ys,hv,p1,_,p3,p4⟩
  cases hv
  obtain⟨ts,vK,rfl⟩:=zt (p1.trans (by have:=xw.map (·.1);simpa[List.map_map,Function.comp_def]using this)) (xs:=h.un) (f:=λe=>((e.1:Nat):Int)) rfl;have hl:=vK.length_eq;obtain⟨X2,a5,zA⟩:=a4.zZ tT p3 p4;obtain⟨B3,rm,rfl,_⟩:=p3.read;have gX:(ts.map λe=>((e.1:Nat):Int)).length=ts.length:=ak;refine aH gX ?_;refine cZ (λm I ds ae=>ds=[]/\I 0=pV (A.chan id no)/\I 6=iV tag/\I 7=.bool flag/\I 8=.bool mC/\I 11=.bool many/\I 74=.slice B3 ts.length rm/\I 75=iV ts.length/\∃(j:Nat) (H':Hid),j+m=ts.length/\I 76=iV j/\aq A H' (n.jD id no (sX tag many) back (ts.take j)) X2 ae) ts.length ?_ ?_
  ·refine⟨rfl,?_,?_,?_,?_,?_,?_,?_,0,H1,ak,?_,a5⟩<;>exact Hy h0 h6 h7 h8 bO gX
  clear h0 h6 h7 h8 bO;rintro m I ds dz Y ⟨rfl,h0,h6,h7,h8,bO,tL,sD,j,H5,xm,ry,aj⟩ hY;have w1:IntKind.i64.wrap ((j:Int)+1)=((j+1:Nat):Int):=by have:=SS.len;rw[wrap64 aa aa];rfl
  cases m with
  |zero=>
   have c0:¬(j:Int)<ts.length:=aa;have vD:j=ts.length:=aa;rw[vD,List.take_length]at aj;simp only[go_sem,seval,sD,ry,c0,decide_false];refine al aG ao ?_;rw[e,<-Ut vK λg hg=>by cases hh.symm.trans hg;exact SS.sep];exact⟨A,H5,0,_,by simp[up,Er.v],.refl A,(zA aj).1⟩
  |succ m=>
   have hj:j<ts.length:=aa;have c0:(j:Int)<ts.length:=aa;obtain⟨_,sj⟩:=zA aj;obtain⟨b2,yA,e2,r2⟩:=sj.read;simp only[Value.slice.injEq]at e2;obtain⟨rfl,_,_⟩:=e2;obtain⟨ba,L,rfl,gT,hL⟩:=r2 j (aV hj);simp only[List.getElem_map,aW]at hL;obtain⟨t,ht⟩:∃t,t=ts[j].1:=⟨_,rfl⟩;rw[<-ht]at hL;have KE:=anY (n:=n) (id:=id) (no:=no) (p:=sX tag many) (b:=back) hj;rw[<-ht]at KE;have can:=SS.step (ts.take j) ts[j] (vK.mem_iff.1 (List.getElem_mem hj)) (G2 ((vK.map (·.1)).nodup_iff.2 SS.nd) hj);rw[<-ht]at can;refine fG λK1 oQ=>?_;simp only[go_sem,seval,sD,ry,c0,decide_true];refine oQ _ _ _ (fG λK2 pN=>?_);refine ag ?_;refine pN _ _ _ (fG λK3 rz=>BJ (fG λK4 tN=>?_));refine bq tL ry ?_;refine⟨aa,?_⟩;refine bq gT hL ?_;refine tN _ _ _ (fG λK5 Az=>?_)
   have go:∀(aC:av) (v:Bool),v=sX tag many t->aC 94=.bool v->aC 13=iV t->aC 0=pV (A.chan id no)->aC 6=iV tag->aC 7=.bool flag->aC 8=.bool mC->aC 11=.bool many->aC 74=.slice (some ⟨ba,0,none⟩) ts.length rm->aC 75=iV ts.length->aC 76=iV j->K5 aC [] dz:=by
    clear h0 h6 h7 h8 bO tL sD ry;intro aC v hv Qd l8 h0 h6 h7 h8 bO tL sD ry;refine Az _ _ _ ?_
    cases v with
    |false=>
     refine aH Qd ?_;refine rz _ _ _ ?_;refine bq ry w1 ?_;refine hY m _ _ _ _ aa ⟨rfl,?_,?_,?_,?_,?_,?_,?_,j+1,H5,aa,?_,by rw[KE,<-hv,if_neg Bool.false_ne_true];exact aj⟩ ao<;>exact Hz h0 h6 h7 h8 bO tL sD
    |true=>
     obtain⟨h',q,dW,ir,hq,b1,Ae,hs⟩:=can hv.symm;rw[<-ht]at ir;subst QF
     cases mC
     all_goals
      simp only[go_sem,seval,Qd,h0,h7,h8,l8,Bool.not_true,Bool.not_false];refine aJ (Uu (nm:=ts[j].2.1) (m:=ts[j].2.2) (tag:=t) aj dW ir hq b1 Ae hs) ?_;rintro v2 cU ⟨lP,H2,a2⟩
      cases lP
      refine ag ?_;refine rz _ _ _ ?_;refine bq ry w1 ?_;refine hY m _ _ _ _ aa ⟨rfl,?_,?_,?_,?_,?_,?_,?_,j+1,H2,aa,?_,by rw[KE,<-hv,if_pos rfl];exact a2⟩ ao<;>exact Hz h0 h6 h7 h8 bO tL sD
   by_cases d1:t=tag
   ·have sx:(t:Int)=tag:=aa;simp only[go_sem,seval,h6,eq_true sx,decide_true];refine go _ true (by simp[sX,d1]) ?_ ?_ ?_ ?_ ?_ ?_ ?_ ?_ ?_ ?_<;>exact tr h0 h6 h7 h8 bO tL sD ry
   have sx:¬(t:Int)=tag:=aa
   cases hm:many with
   |false=>
    rw[hm]at go bO;simp only[go_sem,seval,h6,bO,sx,decide_false];refine go _ false (by simp[sX,d1]) ?_ ?_ ?_ ?_ ?_ ?_ ?_ ?_ ?_ ?_<;>exact tr h0 h6 h7 h8 bO tL sD ry
   |true=>
    rw[hm]at go bO;by_cases d2:t<tag
    ·have wT:(t:Int)<tag:=aa;simp only[go_sem,seval,h6,bO,sx,wT,decide_true,decide_false];refine go _ true (by simp[sX,d2]) ?_ ?_ ?_ ?_ ?_ ?_ ?_ ?_ ?_ ?_<;>exact tr h0 h6 h7 h8 bO tL sD ry
    have wT:¬(t:Int)<tag:=aa;by_cases d3:tag=0
    ·have IM:(tag:Int)=0:=aa;simp only[go_sem,seval,h6,bO,sx,wT,eq_true IM,decide_true,decide_false];refine go _ true (by simp[sX,d3]) ?_ ?_ ?_ ?_ ?_ ?_ ?_ ?_ ?_ ?_<;>exact tr h0 h6 h7 h8 bO tL sD ry
    ·have IM:¬(tag:Int)=0:=aa;simp only[go_sem,seval,h6,bO,sx,wT,IM,decide_false];refine go _ false (by simp[sX,d1,d2,d3]) ?_ ?_ ?_ ?_ ?_ ?_ ?_ ?_ ?_ ?_<;>exact tr h0 h6 h7 h8 bO tL sD ry
 have fail:(!(decide (high=0)&&wJ)&& !(mC&&flag&&decide (high=0)&&decide (tag=0)))=true->n.settled id no h f.s cl me=.ok n (.soft 406 cl me):=by
  intro hf;unfold N.settled;rw[hr];simp only[bX,ep]
  have c1:¬(decide (high=0)&&(bw h.un tag).isSome||decide (me=80)&&flag&&decide (high=0)&&decide (tag=0))=true:=by rw[<-Gx,<-CM];intro hc;rcases Bool.or_eq_true_iff.1 hc with hc|hc<;>simp only[hc,Bool.not_true,Bool.false_and,Bool.and_false]at hf<;>cases hf
  rw[if_neg c1]
 have r7:∀(I:av) (R:Hp) (H1:Hid) (many there:Bool),many=(mC&&flag)->there=(decide (high=0)&&wJ)->aq A H1 n ((bf,bN {f with s:=[]})::X) R->I 0=pV (A.chan id no)->I 1=pV bf->I 5=iV high->I 6=iV tag->I 7=.bool flag->I 8=.bool mC->I 10=.bool there->I 11=.bool many->
  cO E 104 (aO (aO (aO (aO (aO (aO (aO (f273.body.getD .skip)))))))) Q I [] R:=by
  intro I R H1 many there Dh GA a4 h0 h1 h5 h6 h7 h8 bE bO;have lp:=λaC k0 k6 k7 k8 vS fU=>loop aC R H1 many Dh a4 k0 k6 k7 k8 vS fU;simp only[f273,Option.getD_some,aO]at lp|-;refine fG λK hK=>?_;have xF:∀aC,aC 0=I 0->aC 6=I 6->aC 7=I 7->aC 8=I 8->aC 11=I 11->((decide (high=0)&&wJ)||(many&&decide (high=0)&&decide (tag=0)))=true->K aC [] R:=λaC k0 k6 k7 k8 vS fU=>hK _ _ _ (lp aC (by rw[k0,h0]) (by rw[k6,h6]) (by rw[k7,h7]) (by rw[k8,h8]) (by rw[vS,bO]) fU);clear lp hK
  cases there with
  |true=>
   simp only[go_sem,seval,bE,Bool.not_true];refine xF _ ?_ ?_ ?_ ?_ ?_ (by rw[<-GA];rfl)<;>exact au
  |false=>
   have bad:∀{aC:av} {nx:av->List Deferred->Hp->Prop} {pn:List PanicEntry->Hp->Prop} {d:Option Tmp},(many&&decide (high=0)&&decide (tag=0))=false->(∀b cU,aq A H1 n ((Er.soft 406 cl me).ext b++(bf,bN {f with s:=[]})::X) cU->iw A X n bf f (n.settled id no h f.s cl me) (.returned ((Er.soft 406 cl me).v b)) cU->nx (aA aC d ((Er.soft 406 cl me).v b)) [] cU)->jJ E 266 #[pV bf,.iface 215 (iV 406)] R d aC [] nx pn:=by
    intro aC nx pn d hb k;refine aJ (wI (e:=406) a4 aK aN) ?_;rintro v cU ⟨b,hv,a5⟩
    cases hv
    refine k b cU a5 ?_;rw[fail (by rw[<-GA,<-Dh,hb];rfl)];exact⟨A,H1,b,_,rfl,.refl A,a5⟩
   cases hm:many with
   |false=>
    rw[hm]at bO;simp only[go_sem,seval,h1,bE,bO,Bool.not_false];refine bad (by rw[hm];rfl) λb cU a5 fC=>?_;refine ag ?_;exact al aG ao (by simpa[up]using fC)
   |true=>
    rw[hm]at bO;by_cases d1:high=0
    ·have sx:(high:Int)=0:=aa;by_cases d2:tag=0
     ·have wT:(tag:Int)=0:=aa;simp only[go_sem,seval,h5,h6,bE,bO,Bool.not_false,Bool.not_true,eq_true sx,eq_true wT,decide_true];refine xF _ ?_ ?_ ?_ ?_ ?_ (by rw[hm,d1,d2];simp)<;>exact au
     ·have wT:¬(tag:Int)=0:=aa;simp only[go_sem,seval,h1,h5,h6,bE,bO,Bool.not_false,eq_true sx,wT,decide_true,decide_false];refine bad (by simp[d2]) λb cU a5 fC=>?_;refine ag ?_;exact al aG ao (by simpa[up]using fC)
    ·have sx:¬(high:Int)=0:=aa;simp only[go_sem,seval,h1,h5,bE,bO,Bool.not_false,sx,decide_false];refine bad (by simp[d1]) λb cU a5 fC=>?_;refine ag ?_;exact al aG ao (by simpa[up]using fC)
 have r6:∀(I:av) (R:Hp) (H1:Hid) (there:Bool),there=(decide (high=0)&&wJ)->aq A H1 n ((bf,bN {f with s:=[]})::X) R->I 0=pV (A.chan id no)->I 1=pV bf->I 5=iV high->I 6=iV tag->I 7=.bool flag->I 8=.bool mC->I 10=.bool there->
  cO E 104 (aO (aO (aO (aO (aO (aO (f273.body.getD .skip))))))) Q I [] R:=by
  intro I R H1 there GA a4 h0 h1 h5 h6 h7 h8 bE;have lp:=λaC many hm k0 k1 k5 k6 k7 k8 vR vS=>r7 aC R H1 many there hm GA a4 k0 k1 k5 k6 k7 k8 vR vS;simp only[f273,Option.getD_some,aO]at lp|-;refine fG λK hK=>?_;have xF:∀aC many,many=(mC&&flag)->aC 0=I 0->aC 1=I 1->aC 5=I 5->aC 6=I 6->aC 7=I 7->aC 8=I 8->aC 10=I 10->aC 11=.bool many->K aC [] R:=λaC many hm k0 k1 k5 k6 k7 k8 vR vS=>hK _ _ _ (lp aC many hm (by rw[k0,h0]) (by rw[k1,h1]) (by rw[k5,h5]) (by rw[k6,h6]) (by rw[k7,h7]) (by rw[k8,h8]) (by rw[vR,bE]) vS);clear lp hK
  cases mC with
  |true=>
   refine bq h7 h8 ?_;refine xF _ flag rfl ?_ ?_ ?_ ?_ ?_ ?_ ?_ ?_<;>exact au
  |false=>
   refine aH h8 ?_;refine xF _ false rfl ?_ ?_ ?_ ?_ ?_ ?_ ?_ ?_<;>exact au
 have r5:∀(I:av) (R:Hp) (H1:Hid),aq A H1 n ((bf,bN {f with s:=[]})::X) R->I 0=pV (A.chan id no)->I 1=pV bf->I 5=iV high->I 6=iV tag->I 7=.bool flag->I 8=.bool mC->I 10=.bool wJ->
  cO E 104 (aO (aO (aO (aO (aO (f273.body.getD .skip)))))) Q I [] R:=by
  intro I R H1 a4 h0 h1 h5 h6 h7 h8 bE;have lp:=λaC there hm k0 k1 k5 k6 k7 k8 vR=>r6 aC R H1 there hm a4 k0 k1 k5 k6 k7 k8 vR;simp only[f273,Option.getD_some,aO]at lp|-;refine fG λK hK=>?_;have xF:∀aC there,there=(decide (high=0)&&wJ)->aC 0=I 0->aC 1=I 1->aC 5=I 5->aC 6=I 6->aC 7=I 7->aC 8=I 8->aC 10=.bool there->K aC [] R:=λaC there hm k0 k1 k5 k6 k7 k8 vR=>hK _ _ _ (lp aC there hm (by rw[k0,h0]) (by rw[k1,h1]) (by rw[k5,h5]) (by rw[k6,h6]) (by rw[k7,h7]) (by rw[k8,h8]) vR);clear lp hK;have ez:decide ((high:Int)=0)=decide (high=0):=ak
  cases zd:wJ with
  |true=>
   rw[zd]at bE;refine bq h5 bE ?_;refine xF _ (decide ((high:Int)=0)) (by rw[ez,zd,Bool.and_true]) ?_ ?_ ?_ ?_ ?_ ?_ ?_<;>exact au
  |false=>
   rw[zd]at bE;refine aH bE ?_;refine xF _ false (by rw[zd,Bool.and_false]) ?_ ?_ ?_ ?_ ?_ ?_ ?_<;>exact au
 show cO E 104 (aO (aO (aO (f273.body.getD .skip)))) Q _ [] _;simp only[f273,Option.getD_some,aO]at r5|-;refine fG λK hK=>?_;have eme:decide ((me:Int)=80)=mC:=by rw[CM];simp;omega
 have Q5:=a3.eN;rw[aN]at Q5;refine aH Q5 ?_;refine hK _ _ _ (fG λK4 tN=>?_);clear hK;obtain⟨lu,ku,xv,ze,xw⟩:=a3.un hh;refine aH (a3.bV hh) ?_;refine jU (b:=A.un id no) (k:=(tag:Int)) (l:=lu) (c:=ku) A8 (z:=.agg #[.pointer none,iV 0,sV [],sV [],.bool false]) ah ?_ xv ?_ ?_
 ·exact au
 ·exact au
 have dr:∃x1 x2 x3 x4 x5,((dt lu (tag:Int)).map (·.2.1)).getD (.agg #[.pointer none,iV 0,sV [],sV [],.bool false])=.agg #[.pointer x1,iV x2,sV x3,sV x4,.bool x5]/\(dt lu (tag:Int)).isSome=wJ:=by
  cases hg:bw h.un tag with
  |none=>
   have:=map_none xw (k:=(tag:Int)) (λe he=>by obtain⟨y,hy,rfl⟩:=List.mem_map.1 he;exactλe2=>iF hg y hy (by simp only at e2;omega));rw[this];exact⟨none,0,[],[],false,rfl,by rw[Gx,hg];rfl⟩
  |some v=>
   obtain⟨st,bt⟩:=rP ze xw (List.mem_map_of_mem (f:=λe:Nat×(List UInt8×aQ)=>((e.1:Int),tQ (A.queue e.2.1) e.2.2)) (gI hg));rw[bt];exact⟨some ⟨A.queue v.1,0,none⟩,v.2.seq,v.2.key,v.2.body,v.2.again,rfl,by rw[Gx,hg];rfl⟩
 obtain⟨x1,x2,x3,x4,x5,hv1,lP⟩:=dr;rw[if_pos rfl,hv1,lP];refine ag ?_;refineλb9 mN=>?_;refine ag ?_;refine tN _ _ _ (r5 _ _ H ?_ ?_ ?_ ?_ ?_ ?_ ?_ ?_)
 ·first|exact a3.fresh mN _|(rw[Hp.set_set];exact a3.fresh mN _)
 all_goals simp only[go_sem,seval,eme]
end
def DW(r:Nat):Bool:=(decide (97<=r)&&decide (r<=122))||(decide (65<=r)&&decide (r<=90))
def wV(r:Nat):Bool:=decide (48<=r)&&decide (r<=57)
def qd(r:Nat):Bool:=decide (r<128)&&(DW r||(wV r||(decide (r=46)||(decide (r=95)||decide (r=45)))))
def apo:∀r:_root_.Fin 128,(decide (¬BZ IntKind.u8 (Go.Lib.propertiesTab.getD r.val 0) 96=0))=DW r.val:=kE
def Ts(b:UInt8):okB b=qd b.toNat:=by unfold okB qd DW wV;rw[Bool.eq_iff_iff];simp only[Bool.or_eq_true,Bool.and_eq_true,decide_eq_true_eq];omega
variable {s:List UInt8}{p:Nat}
def aaK(hp:p<s.length)(h:s[p].toNat<128):Utf8.decode (B s) p=(s[p].toNat,1):=by
 have e:((B s).get! (p+0)).toNat=s[p].toNat:=by simp[B,ByteArray.get!,hp]
 unfold Utf8.decode;simp only[e];rw[if_pos h]
def decode_high(hp:p<s.length)(h:¬s[p].toNat<128):128<=(Utf8.decode (B s) p).1:=by
 have e:((B s).get! (p+0)).toNat=s[p].toNat:=by simp[B,ByteArray.get!,hp]
 have re:128<=Utf8.runeError:=an;unfold Utf8.decode;simp only[e];rw[if_neg h];split
 ·split
  ·assumption
  ·exact re
 ·split
  ·split
   ·rename_i h1;simp only[Bool.and_eq_true,decide_eq_true_eq,ge_iff_le]at h1|-;omega
   ·exact re
  ·split
   ·split
    ·rename_i h1;simp only[Bool.and_eq_true,decide_eq_true_eq,ge_iff_le]at h1|-;omega
    ·exact re
   ·exact re
variable {E:Env prog}{U:Hp}{f:FR}{L:List Value}{r:Nat}
def aiR(hr:r<128)(hp:U.f 1=some (.cells L.toArray 396 (0,0)))(hq:L[r]? =some (.int .u8 (Go.Lib.propertiesTab.getD r 0))):aw E 300 #[.int .i32 r] U λe R=>e=.returned (.bool (DW r))/\R=U:=by
 refine eY func300 ntmps300 results300 rfl ak λQ aB al az=>?_
 have w1:IntKind.u32.wrap (r:Int)=r:=by have:((r:Int) % 4294967296)=r:=aa;simpa[IntKind.wrap,IntKind.bits,IntKind.signed]using this
 have w2:IntKind.u8.wrap (r:Int)=r:=by have:((r:Int) % 256)=r:=aa;simpa[IntKind.wrap,IntKind.bits,IntKind.signed]using this
 have c1:(r:Int)<=255:=aa;simp only[go_sem,seval,w1,w2,c1,decide_true];refine agM (e:=5) (n:=256) (b:=1) (k:=.u8) (j:=r) ah (ie:=t5) ah ah ?_ ?_ aa aa ah ?_
 ·exact au
 ·exact au
 simp only[go_sem,seval,hp,Int.toNat_natCast,hq];refine al aG ao ⟨?_,rfl⟩;simp only[up,if_true];rw[apo ⟨r,hr⟩]
def aaT(hr:r<128):aw E 301 #[.int .i32 r] U λe R=>e=.returned (.bool (wV r))/\R=U:=by
 refine eY func301 ntmps301 results301 rfl ak λQ aB al az=>?_;have c1:(r:Int)<=255:=aa;by_cases h:48<=r
 ·have h':(48:Int)<=r:=aa;have e:decide ((r:Int)<=57)=wV r:=by unfold wV;simp[h];omega
  simp only[go_sem,seval,c1,h',decide_true,e];exact al aG ao ⟨by simp[up],rfl⟩
 ·have h':¬(48:Int)<=r:=aa;have e:wV r=false:=by unfold wV;simp[h]
  simp only[go_sem,seval,c1,h',decide_true,decide_false];exact al aG ao ⟨by simp[up,e],rfl⟩
def Sv(hp:U.f 1=some (.cells L.toArray 396 (0,0)))(hq:∀i<128,L[i]? =some (.int .u8 (Go.Lib.propertiesTab.getD i 0))):aw E 299 #[.int .i32 r] U λe R=>e=.returned (.bool (qd r))/\R=U:=by
 refine eY func299 ntmps299 results299 rfl ak λQ aB al az=>?_;by_cases hr:r<128
 ·have c1:(r:Int)<=127:=aa;simp only[go_sem,seval,c1,decide_true];refine bz (aiR hr hp (hq r hr)) ?_
  cases hl:DW r with
  |true=>
   have e:qd r=true:=by simp[qd,hr,hl]
   refine ag ?_;exact al aG ao ⟨by simp[up,e],rfl⟩
  |false=>
   refine ag ?_;refine bz (aaT hr) ?_
   cases hd:wV r with
   |true=>
    have e:qd r=true:=by simp[qd,hr,hd]
    refine ag ?_;exact al aG ao ⟨by simp[up,e],rfl⟩
   |false=>
    have e:qd r=(decide (r=46)||(decide (r=95)||decide (r=45))):=by simp[qd,hr,hl,hd]
    by_cases h1:r=46
    ·have ru:(r:Int)=46:=aa;simp only[go_sem,seval,eq_true ru,decide_true];exact al aG ao ⟨by rw[e];simp[up,h1],rfl⟩
    ·have ru:¬(r:Int)=46:=aa;by_cases h2:r=95
     ·have kS:(r:Int)=95:=aa;simp only[go_sem,seval,ru,eq_true kS,decide_true,decide_false];exact al aG ao ⟨by rw[e];simp[up,h2],rfl⟩
     ·have kS:¬(r:Int)=95:=aa;have e3:decide ((r:Int)=45)=decide (r=45):=by simp;omega
      simp only[go_sem,seval,ru,kS,decide_false,e3];exact al aG ao ⟨by simp[up,e,h1,h2],rfl⟩
 ·have c1:¬(r:Int)<=127:=aa;have e:qd r=false:=by simp[qd,hr]
  simp only[go_sem,seval,c1,decide_false];exact al aG ao ⟨by simp[up,e],rfl⟩
def ajy(hp:U.f 1=some (.cells L.toArray 396 (0,0)))(hq:∀i<128,L[i]? =some (.int .u8 (Go.Lib.propertiesTab.getD i 0))):aw E 298 #[sV s] U λe R=>e=.returned (.bool (named s))/\R=U:=by
 refine eY func298 ntmps298 results298 rfl ak λQ aB al az=>?_;refine ag ?_;refine amT (s:=s) ah ?_ ?_
 ·exact au
 intro it hit;have n1:¬1=it:=bh hit hp;have hle:∀o,U.le (U.set it o):=λo=>kz hit;refine ag ?_;refine cZ (λm I ds ae=>ds=[]/\I 0=sV s/\I 6=pV it/\∃p:Nat,p+m=s.length/\(∀b∈s.take p,okB b=true)/\ae=U.set it (.stringIter (B s) p)) s.length ?_ ?_
 ·refine⟨rfl,?_,?_,0,ak,ak,rfl⟩<;>exact au
 ·rintro m I ds ae X ⟨rfl,h0,h6,p,AU,fU,rfl⟩ hX
  cases m with
  |succ m=>
   have sN:p<s.length:=aa;refine ag ?_;refine S8 (s:=s) (pos':=p) h6 aT (λ_=>?_) (λh=>absurd sN h);rw[Hp.set_set];by_cases hb:s[p].toNat<128
   ·rw[aaK sN hb];refine ag ?_;refine bz (Sv (by rw[Hp.ay n1];exact hp) hq) ?_;rw[<-Ts]
    cases ho:okB s[p]with
    |true=>
     simp only[go_sem,seval,Bool.not_true];refine hX m _ _ _ _ aa ⟨rfl,?_,?_,p+1,aa,?_,rfl⟩ ao
     ·exact aP h0
     ·exact aP h6
     ·intro b hb;rw[List.take_succ_eq_append_getElem sN,List.mem_append]at hb;rcases hb with hb|hb
      ·exact fU b hb
      ·rw[List.mem_singleton.1 hb];exact ho
    |false=>
     have e:named s=false:=by
      unfold named;have:s.all okB=false:=by rw[List.all_eq_false];exact⟨s[p],List.getElem_mem sN,by simp[ho]⟩
      rw[this,Bool.and_false]
     simp only[go_sem,seval,Bool.not_false];exact al (R:=U) aG (hle _) ⟨by simp[up,e],rfl⟩
   ·have hr:=decode_high sN hb;obtain⟨rr,Dx⟩:∃rr,rr=(Utf8.decode (B s) p).1:=⟨_,rfl⟩;rw[<-Dx]at hr|-;refine ag ?_;refine bz (Sv (by rw[Hp.ay n1];exact hp) hq) ?_;have e1:qd rr=false:=by unfold qd;rw[decide_eq_false aa];rfl
    have e:named s=false:=by
     unfold named
     have:s.all okB=false:=by rw[List.all_eq_false];refine⟨s[p],List.getElem_mem sN,?_⟩;rw[Ts];unfold qd;rw[decide_eq_false hb];simp
     rw[this,Bool.and_false]
    rw[e1];simp only[go_sem,seval,Bool.not_false];exact al (R:=U) aG (hle _) ⟨by simp[up,e],rfl⟩
  |zero=>
   refine ag ?_;refine S8 (s:=s) (pos':=p) h6 aT (λh=>absurd h aa) (λ_=>?_);have lK:s.all okB=true:=by rw[List.all_eq_true];rw[List.take_of_length_le aa]at fU;exact fU
   by_cases h1:s=[]
   ·have e:named s=false:=by unfold named;simp[h1]
    simp only[go_sem,seval,h0,eq_true h1,decide_true];exact al (R:=U) aG (hle _) ⟨by simp[up,e],rfl⟩
   ·have e:named s=decide ((s.length:Int)<=16):=by unfold named;rw[lK];simp[h1];omega
    refine bq h0 h1 ?_;exact al (R:=U) aG (hle _) ⟨by simp[up,e],rfl⟩
variable {I:av}{ds:List Deferred}{dst:Option Tmp}{nx:av->List Deferred->Hp->Prop}{pn:List PanicEntry->Hp->Prop}{P:Program}{ty:TypeId}{pos:String}{af:Array Edge}{g:Option (Nat×Bool)}{E:Env P}
def Po{t u d:TypeId}{x y:Operand}{i j:Int}{k:IntKind}{inf:TypeInfo}(hu:∃ms,P.underlying t=some (.interface ms))(hd:P.underlying d=some (.int k))(hi:P.info? d=some inf)(hc:inf.comparable=true)(hx:ai I x=.iface d (iV i))(hy:ai I y=.iface d (iV j))(h:nx (aA I dst (.bool (decide (i=j)))) ds U):wpOp E ⟨dst,.binOp .eql t x y u,ty,pos,af,g⟩ I ds U nx pn:=by
 unfold wpOp;simp only[execOp,hx,hy,aF];refine yD ?_ ⟨ak,ak⟩;unfold binOp;simp only[aF,bl];obtain⟨ms,hu⟩:=hu;show wpS P (Op.equalIn (9998+1+1) t _ _) _ _ U;unfold Op.equalIn;simp only[aF,eg,hu,ne_eq,not_true_eq_false,if_false,fO,hi,hc,Bool.not_true,Bool.false_eq_true];unfold Op.equalIn;simp only[aF,eg,hd,if_true,bl];have e:(i==j)=decide (i=j):=by by_cases h:i=j<;>simp[h]
 rw[e];exact h
section
variable {E:Env prog}{H:Hid}{n:N}{X:Ext}{U:Hp}{c:CN}{nm:List UInt8}{q:QN}{f:FR}
variable {A:Lay}{id:Int}
def aaI (a:aq A H n X U)(w:Wf n):
 aw E 286 #[pV A.br,sV nm] U λe R=>(∃q,n.q? nm=some q/\e=.returned (.tuple #[pV (A.queue nm),.nilIface])/\R=U)\/
  (n.q? nm=none/\named nm=false/\e=.returned (.tuple #[.pointer none,.iface 215 (iV 502)])/\aq A H n X R)\/
  (n.q? nm=none/\named nm=true/\n.aL.length=8/\e=.returned (.tuple #[.pointer none,.iface 215 (iV 506)])/\aq A H n X R)\/
  (n.q? nm=none/\named nm=true/\n.aL.length≠8/\∃b H',e=.returned (.tuple #[pV b,.nilIface])/\aq (A.tk nm b) H' {n with aL:=cJ cN n.aL nm ⟨[],0,0,[]⟩} X R):=by
 refine aX func286 ntmps286 results286 λQ aB al az=>?_;obtain⟨l,k,h1,h2,h3⟩:=a.mq;have hlen:l.length=n.aL.length:=by have:=h3.length_eq;simpa using this
 refine aH a.tE ?_;refine jU (b:=A.mq) (k:=nm) (l:=l) (c:=k) vT (z:=.pointer none) ah ?_ h1 ?_ ?_
 ·exact au
 ·exact au
 rw[if_neg Bool.false_ne_true]
 cases hq:n.q? nm with
 |some q=>
  obtain⟨st,bt⟩:=rP h2 h3 (List.mem_map_of_mem (f:=λe:List UInt8×QN=>(e.1,pV (A.queue e.1))) (gI hq));have dr:((dt l nm).map (·.2.1)).getD (.pointer none)=pV (A.queue nm):=by rw[bt];rfl
  rw[dr];refine ag ?_;exact al iT ao (.inl ⟨q,hq,by simp[up],rfl⟩)
 |none=>
  have bt:=map_none h3 (k:=nm) (λe he=>by obtain⟨y,hy,rfl⟩:=List.mem_map.1 he;exact iF hq y hy);have dr:((dt l nm).map (·.2.1)).getD (.pointer none)=.pointer none:=by rw[bt];rfl
  rw[dr];refine ag ?_;refine bz (ajy a.b1 A.tab) ?_
  cases jx:named nm with
  |false=>
   simp only[go_sem,seval,Bool.not_false];exact al iT ao (.inr (.inl ⟨hq,jx,by simp[up],a⟩))
  |true=>
   simp only[go_sem,seval,Bool.not_true,a.tE];refine GW vT ?_ h1 ?_
   ·exact au
   by_cases h8:n.aL.length=8
   ·have Jr:(l.length:Int)=8:=aa;simp only[go_sem,seval,eq_true Jr,decide_true];exact al iT ao (.inr (.inr (.inl ⟨hq,jx,h8,by simp[up],a⟩)))
   ·have Jr:¬(l.length:Int)=8:=aa;simp only[go_sem,seval,Jr,decide_false];refineλb hb=>?_;have a1:=λo=>a.fresh hb o;have f1:=λo=>(a1 o).tE;refine aH f1 ?_;refine Bc (b:=A.mq) (k:=nm) vT h2.uniq ?_ (kz hb _ _ h1) ?_ ?_
    ·exact au
    ·exact au
    obtain⟨d1,d2⟩:=D7 h2 h3 (k:=nm) (λe he=>by obtain⟨y,hy,rfl⟩:=List.mem_map.1 he;exact iF hq y hy) (pV b);refine ag ?_;refine al iT ao (.inr (.inr (.inr ⟨hq,jx,h8,b,_,by simp[up],a.ajM w hq hb ⟨_,_,rfl,d1,?_⟩⟩)));refine d2.trans (List.Perm.symm ?_);refine((u0 (lt:=cN) n.aL nm ⟨[],0,0,[]⟩).map _).trans ?_;simp only[List.map_cons,Lay.tk,if_true];refine List.Perm.cons _ (List.Perm.of_eq (List.map_congr_left λe he=>?_));rw[if_neg (λx=>by have:=iF hq e he;exact this x)]
end
end Go.Qw
