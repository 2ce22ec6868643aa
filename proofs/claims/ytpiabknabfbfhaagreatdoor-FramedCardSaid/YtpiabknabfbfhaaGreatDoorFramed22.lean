/- 22 -/
import Derived.Test.YtpiabknabfbfhaaGreatDoorFramed21
set_option linter.all false
set_option maxRecDepth 100000
set_option maxHeartbeats 8000000
namespace Go.Qw
open Go Go.Conc Go.Proofs
section
variable {n:N}{aI:Int}{no:Nat}{dE:Nat}{nm:List UInt8}{da:List UInt8}{f:CN->CN}{fr:CR->CR}{fh:HR->HR}{fq:QN->QN}{k:Int}
variable {id:Int}{g:HN->HN}
@[simp] def ql:(n.dn id f).ar aI=if aI=id then(n.ar aI).map f else n.ar aI:=Iq _ _ _ _
@[simp] def as3:(n.dn id f).q? nm=n.q? nm:=rfl
@[simp] def ato:(n.dn id f).x? k=n.x? k:=rfl
@[simp] def yz:(n.bF nm fq).ar id=n.ar id:=rfl
@[simp] def AB:(n.bF nm fq).h? id no=n.h? id no:=rfl
@[simp] def aqJ:(n.bF nm fq).x? k=n.x? k:=rfl
@[simp] def uH:(n.bF nm fq).q? da=if da=nm then(n.q? da).map fq else n.q? da:=Iq _ _ _ _
@[simp] def as5:(n.bC id fr).q? nm=n.q? nm:=rfl
@[simp] def atq:(n.bC id fr).x? k=n.x? k:=rfl
@[simp] def Ha:(n.bA id no g).q? nm=n.q? nm:=rfl
@[simp] def aqI:(n.bA id no g).x? k=n.x? k:=rfl
@[simp] def qm:(n.bC id fr).ar aI=if aI=id then(n.ar aI).map (λc=>{c with r:=fr c.r})else n.ar aI:=ql
@[simp] def JM:(n.bC id fr).h? aI no=n.h? aI no:=by
 unfold N.h?;rw[qm];split
 ·cases n.ar aI<;>rfl
 ·rfl
@[simp] def vl:(n.bA id no g).ar aI=if aI=id then(n.ar aI).map (λc=>{c with ch:=dw c.ch no g})else n.ar aI:=ql
@[simp] def jN:(n.bA id no g).h? aI dE=if aI=id/\dE=no then(n.h? aI dE).map g else n.h? aI dE:=by
 unfold N.h?;rw[vl];by_cases h:aI=id
 ·simp only[h,if_true,true_and]
  cases n.ar id with
  |none=>simp
  |some c=>simp only[Option.map_some,Option.bind_some,Iq]
 ·simp only[h,if_false,false_and]
@[simp] def IL:(n.cf id no fh).ar aI=if aI=id then(n.ar aI).map (λc=>{c with ch:=dw c.ch no λh=>{h with r:=fh h.r}})else n.ar aI:=vl
@[simp] def JL:(n.cf id no fh).h? aI dE=if aI=id/\dE=no then(n.h? aI dE).map (λh=>{h with r:=fh h.r})else n.h? aI dE:=jN
@[simp] def as4:(n.cf id no fh).q? nm=n.q? nm:=rfl
@[simp] def atp:(n.cf id no fh).x? k=n.x? k:=rfl
@[simp] def as2 {s:List UInt8}:(n.send id s).q? nm=n.q? nm:=rfl
@[simp] def Vp {s:List UInt8}:(n.send id s).x? k=n.x? k:=rfl
@[simp] def pO {s:List UInt8}:(n.send id s).h? aI no=n.h? aI no:=JM
@[simp] def sw {s:List UInt8}:(n.send id s).ar aI=if aI=id then(n.ar aI).map (λc=>{c with r:={c.r with out:=c.r.out++s,ib:=n.clock}})else n.ar aI:=qm
def CI {c:CN}{h:HN}(hh:n.h? id no=some h)(hc:n.ar id=some c):bw c.ch no=some h:=by simpa[N.h?,hc]using hh
def xd {h:HN}(hh:n.h? id no=some h):∃c,n.ar id=some c:=by
 cases hc:n.ar id with
 |none=>simp[N.h?,hc]at hh
 |some c=>exact⟨c,rfl⟩
end
section
variable {n:N}{no:Nat}{nm:List UInt8}{f:CN->CN}{k:Int}{H:Hid}{X:Ext}{U:Hp}{c:CN}{h:HN}{q:QN}{x:XN}{o:Obj}
variable {A:Lay}{id:Int}
def aq.fresh (a:aq A H n X U){b:Nat}(hb:U.f b=none)(o:Obj):aq A H n X (U.set b o):=a.le (λx y hx=>by rw[Hp.ay (bh hb hx)];exact hx)
def aq.anX (a:aq A H n X U)(cl la:Int):aq A H {n with clock:=cl,last:=la} X (U.set A.gw (eE n.cfg A.br A.mc cl la)):=
 (Hl.uM a (r:=.gw) rfl _).congr (λr=>by cases r<;>simp[view,upd,N.ar,N.h?,N.q?,N.x?]) (λ_ _=>rfl)
def aq.Up (a:aq A H n X U)(me aY:Int):aq A H {n with messages:=me,aY:=aY} X (U.set A.br (ij A.mq n.cfg.queue me aY)):=
 (Hl.uM a (r:=.br) rfl _).congr (λr=>by cases r<;>simp[view,upd,N.ar,N.h?,N.q?,N.x?]) (λ_ _=>rfl)
def aq.nD (a:aq A H n X U)(hc:n.ar id=some c)(f:CR->CR):aq A H (n.bC id f) X (U.set (A.conn id) (fu A.gw id (H.chm id) (f c.r))):=
 (Hl.uM a (r:=.conn id) (by simp[view,hc]) _).congr (λr=>by
  cases r
  case conn i=>by_cases e:i=id<;>simp[view,upd,e,hc]
  case chm i=>by_cases e:i=id<;>simp[view,upd,e,hc]
  case mc=>simp only[view,upd,N.bC,N.dn,reduceCtorEq,if_false];rw[oE _ _ _ λi=>(i,pV (A.conn i))]
  all_goals simp[view,upd]<;>rfl) (λ_ _=>rfl)
def Lt {α γ δ:Type}{F:α->γ}(g:γ->δ){x y:Option α}(h:x.map F=y.map F):(x.map λa=>g (F a))=y.map λa=>g (F a):=by
 have e:∀z:Option α,(z.map λa=>g (F a))=(z.map F).map g:=λz=>by cases z<;>rfl
 rw[e,e,h]
def MT {γ:Type}{f:HN->HN}(F:HN->γ)(h:∀x,n.h? id no=some x->F (f x)=F x)(i:Int)(j:Nat):((n.bA id no f).h? i j).map F=(n.h? i j).map F:=by
 rw[jN];split
 ·rename_i e;obtain⟨rfl,rfl⟩:=e
  cases hx:n.h? i j with
  |none=>rfl
  |some x=>simp[h x hx]
 ·rfl
def MS {γ:Type}{f:HN->HN}(F:HN->γ){i:Int}{j:Nat}(h:¬(i=id/\j=no)):((n.bA id no f).h? i j).map F=(n.h? i j).map F:=by rw[jN,if_neg h]
def MV {f:HN->HN}{v:V}{r0:Ref}(h1:(∀x,n.h? id no=some x->(f x).r=x.r)\/r0=.chan id no)(h2:(∀x,n.h? id no=some x->(f x).un=x.un)\/r0=.un id no)(h3:(∀x,n.h? id no=some x->(f x).co=x.co)\/r0=.co id no)
 (hv:view (n.bA id no f) A H X r0=some v):∀r,view (n.bA id no f) A H X r=upd (view n A H X) r0 (some v) r:=by
 intro r;by_cases e:r=r0
 ·subst e;simp[upd,hv]
 simp only[upd,if_neg e]
 cases r with
 |chan i j=>
  refine Lt (F:=λh:HN=>h.r) (λr=>V.obj (ix (A.conn i) j (A.un i j) (A.co i j) r)) ?_;rcases h1 with h|rfl
  ·exact MT _ h i j
  ·exact MS _ λx=>e (by rw[x.1,x.2])
 |un i j=>
  refine Lt (F:=λh:HN=>h.un) (λl=>V.pk (l.map λe=>((e.1:Int),tQ (A.queue e.2.1) e.2.2))) ?_;rcases h2 with h|rfl
  ·exact MT _ h i j
  ·exact MS _ λx=>e (by rw[x.1,x.2])
 |co i j=>
  refine Lt (F:=λh:HN=>h.co) (λl=>V.xG (l.map λe=>(e.1,pV (A.cons e.2)))) ?_;rcases h3 with h|rfl
  ·exact MT _ h i j
  ·exact MS _ λx=>e (by rw[x.1,x.2])
 |mc=>simp only[view,N.bA,N.dn];rw[oE _ _ _ λi=>(i,pV (A.conn i))]
 |conn i=>
  simp only[view,vl];split
  ·cases n.ar i<;>rfl
  ·rfl
 |chm i=>
  simp only[view,vl];split
  ·cases n.ar i with
   |none=>rfl
   |some c=>simp only[Option.map_some];rw[oE _ _ _ λj:Nat=>((j:Int),pV (A.chan i j))]
  ·rfl
 |_=>rfl
def aq.setH (a:aq A H n X U)(hh:n.h? id no=some h)(f:HN->HN)(h1:(f h).un=h.un)(h2:(f h).co=h.co):aq A H (n.bA id no f) X (U.set (A.chan id no) (ix (A.conn id) no (A.un id no) (A.co id no) (f h).r)):=by have k:=Hl.uM a (r:=.chan id no) (by simp[view,hh]) (ix (A.conn id) no (A.un id no) (A.co id no) (f h).r);exact Hl.congr k (MV (f:=f) (.inr rfl) (.inl λx hx=>by rw[hh]at hx;cases hx;exact h1) (.inl λx hx=>by rw[hh]at hx;cases hx;exact h2) (by simp[view,hh])) (λ_ _=>rfl)
def aq.xR (a:aq A H n X U)(hh:n.h? id no=some h)(f:HR->HR):aq A H (n.cf id no f) X (U.set (A.chan id no) (ix (A.conn id) no (A.un id no) (A.co id no) (f h.r))):=a.setH hh (λh=>{h with r:=f h.r}) rfl rfl
def aq.Us (a:aq A H n X U)(hh:n.h? id no=some h)(f:HN->HN)(h1:(f h).r=h.r)(h2:(f h).co=h.co)(ho:oB (.pk ((f h).un.map λe=>((e.1:Int),tQ (A.queue e.2.1) e.2.2))) o):
 aq A H (n.bA id no f) X (U.set (A.un id no) o):=by
 have k:=Hl.set a (r:=.un id no) (by simp[view,hh]) ho;exact Hl.congr k (MV (f:=f) (.inl λx hx=>by rw[hh]at hx;cases hx;exact h1) (.inr rfl) (.inl λx hx=>by rw[hh]at hx;cases hx;exact h2) (by simp[view,hh])) (λ_ _=>rfl)
def aq.Mj (a:aq A H n X U)(hh:n.h? id no=some h)(f:HN->HN)(h1:(f h).r=h.r)(h2:(f h).un=h.un)(ho:oB (.xG ((f h).co.map λe=>(e.1,pV (A.cons e.2)))) o):
 aq A H (n.bA id no f) X (U.set (A.co id no) o):=by
 have k:=Hl.set a (r:=.co id no) (by simp[view,hh]) ho;exact Hl.congr k (MV (f:=f) (.inl λx hx=>by rw[hh]at hx;cases hx;exact h1) (.inl λx hx=>by rw[hh]at hx;cases hx;exact h2) (.inr rfl) (by simp[view,hh])) (λ_ _=>rfl)
def aq.Hk (a:aq A H n X U)(hq:n.q? nm=some q)(f:QN->QN)(h1:(f q).ready=q.ready)(h2:(f q).cons=q.cons):aq A H (n.bF nm f) X (U.set (A.queue nm) (fy nm (H.rv nm) (f q).held (f q).last (H.cv nm))):=
 (Hl.uM a (r:=.queue nm) (by simp[view,hq]) _).congr (λr=>by
  cases r
  case queue i=>by_cases e:i=nm<;>simp[view,upd,e,hq]
  case eQ i=>by_cases e:i=nm<;>simp[view,upd,e,hq,h1]
  case il i=>by_cases e:i=nm<;>simp[view,upd,e,hq,h2]
  case mq=>simp only[view,upd,N.bF,reduceCtorEq,if_false];rw[oE _ _ _ λi=>(i,pV (A.queue i))]
  all_goals simp[view,upd]<;>rfl) (λ_ _=>rfl)
def aq.jM (a:aq A H n X U):U.f A.gw=some (.cells [iV n.cfg.jc,iV n.cfg.frame,iV n.cfg.gh,iV n.cfg.queue,iV n.cfg.body,pV A.br,iV n.clock,iV n.last,.map (some A.mc)].toArray 74 (0,0)):=a.gw
def aq.tE (a:aq A H n X U):U.f A.br=some (.cells [.map (some A.mq),iV n.cfg.queue,iV n.messages,iV n.aY].toArray 116 (0,0)):=a.br
def aq.eC (a:aq A H n X U)(hc:n.ar id=some c):U.f (A.conn id)=some (.cells [pV A.gw,iV id,iV c.r.ph,sV c.r.rest,.bool c.r.je,.map (some (H.chm id)),iV c.r.dm,iV c.r.frame,iV c.r.gh,iV c.r.ib,iV c.r.recv,sV c.r.out].toArray 90 (0,0)):=a.conn hc
def aq.bV (a:aq A H n X U)(hh:n.h? id no=some h):U.f (A.chan id no)=some (.cells [pV (A.conn id),iV no,.bool h.r.closing,iV h.r.nz,iV h.r.tag,.map (some (A.un id no)),.map (some (A.co id no)),iV h.r.want,sV h.r.key,sV h.r.body,iV h.r.size].toArray 276 (0,0)):=a.chan hh
def aq.th (a:aq A H n X U)(hq:n.q? nm=some q):U.f (A.queue nm)=some (.cells [sV nm,H.rv nm,iV q.held,iV q.last,H.cv nm].toArray 81 (0,0)):=a.queue hq
def aq.vm (a:aq A H n X U)(hx:n.x? k=some x):U.f (A.cons k)=some (.cells [.iface 185 (pV (A.chan x.id x.no)),iV k,sV x.tag,pV (A.queue x.q),.bool x.fp].toArray 191 (0,0)):=a.cons hx
def aq.ei {p:Nat×Obj}(a:aq A H n (p::X) U):U.f p.1=some p.2:=a.ext (i:=0) rfl
def aq.ext1 {p q:Nat×Obj}(a:aq A H n (q::p::X) U):U.f p.1=some p.2:=a.ext (i:=1) rfl
def It {α β:Type}[DecidableEq α](l:List (α×β))(k:α)(f g:β->β):dw (dw l k f) k g=dw l k λx=>g (f x):=by unfold dw;rw[List.map_map];apply List.map_congr_left;intro e _;simp only[Function.comp];by_cases h:e.1=k<;>simp[h]
def EM (f g:QN->QN):(n.bF nm f).bF nm g=n.bF nm λq=>g (f q):=by simp only[N.bF,It]
def ap1:n.bF nm (λq=>q)=n:=by
 have:dw n.aL nm (λq=>q)=n.aL:=by unfold dw;conv=>rhs;rw[<-List.map_id n.aL]
                                  exact List.map_congr_left λe _=>ak
 simp only[N.bF,this]
def MR (f g:CN->CN):(n.dn id f).dn id g=n.dn id λc=>g (f c):=by simp only[N.dn,It]
def MU (f g:HN->HN):(n.bA id no f).bA id no g=n.bA id no λh=>g (f h):=by simp only[N.bA,MR,It]
end
variable {x:XN}
def Hid.jC(H:Hid)(nm:List UInt8)(v:Value):Hid:={H with rv:=λx=>if x=nm then v else H.rv x}
def Hid.px(H:Hid)(nm:List UInt8)(v:Value):Hid:={H with cv:=λx=>if x=nm then v else H.cv x}
def Hid.uK(H:Hid)(id:Int)(b:Nat):Hid:={H with chm:=λx=>if x=id then b else H.chm x}
def Apart(w:Ref->Option V)(ad:Ref->Nat)(r:Ref)(b:Nat):Prop:=∀r',r'≠r->(w r').isSome->ad r'≠b
variable {w:Ref->Option V}{ad:Ref->Nat}{U:Hp}
def Hl.apart(h:Hl w ad U)(r:Ref)(hr:(w r).isSome):Apart w ad r (ad r):=λr' aE hs e=>aE (h.inj r' r hs hr e)
variable {f:CN->CN}{b:Nat}
def Hl.tC(h:Hl w ad U)(r:Ref)(hb:U.f b=none):Apart w ad r b:=λr' _ hs e=>by obtain⟨u,hu⟩:=Option.isSome_iff_exists.1 hs;obtain⟨o',h1,_⟩:=h.has r' u hu;rw[e,hb]at h1;cases h1
section
variable {n:N}{nm:List UInt8}{f:CN->CN}{k:Int}{H:Hid}{X:Ext}{U:Hp}{c:CN}{h:HN}{q:QN}{x:XN}{o:Obj}{b:Nat}
variable {A:Lay}{id:Int}
def ajs {v:Value}{ms:List aQ}(h:gz U ms v)(hn:kJ v=false):∃o,U.f (pG v)=some o/\oB (.eQ v ms) o:=by
 cases h with
 |none e=>cases hn
 |«at»a pre pad c h1 h2 h3=>exact⟨_,h3,a,pre,pad,c,rfl,h1,h2,rfl⟩
def T0 (hq:n.q? nm=some q)(hn:kJ (H.rv nm)=false):view n A H X (.eQ nm)=some (.eQ (H.rv nm) q.ready):=by simp[view,hq,zx,hn]
def O3 (hq:n.q? nm=some q)(hn:kJ (H.cv nm)=false):view n A H X (.il nm)=some (.il (H.cv nm) (q.cons.map λk=>pV (A.cons k))):=by simp[view,hq,Cb,hn]
def aq.Mk (a:aq A H n X U)(hq:n.q? nm=some q){rv:Value}(f:QN->QN)(hf:(f q).cons=q.cons)(hb:Apart (view n A H X) (cI A H X) (.eQ nm) b)(ho:oB (.eQ rv (f q).ready) o)(CS:pG rv=b):
 aq A (H.jC nm rv) (n.bF nm f) X ((U.set b o).set (A.queue nm) (fy nm rv (f q).held (f q).last (H.cv nm))):=by
 have h1:=Hl.put a hb ho;have h2:=Hl.uM h1 (r:=.queue nm) (by simp[upd,view,hq]) (fy nm rv (f q).held (f q).last (H.cv nm));have e2:upd (cI A H X) (.eQ nm) b (.queue nm)=A.queue nm:=by simp[upd,cI]
 rw[e2]at h2
 have kX:¬(kJ rv=true/\(f q).ready=[]):=by rintro⟨e,_⟩;obtain⟨_,_,_,_,e2,_⟩:=ho;rw[GM e]at e2;simp at e2
 refine Hl.congr h2 (λr=>?_) (λr hr=>?_)
 ·cases r
  case queue i=>by_cases e:i=nm<;>simp[view,upd,e,hq,Hid.jC]
  case eQ i=>by_cases e:i=nm<;>simp[view,upd,e,hq,Hid.jC,zx,kX]
  case il i=>by_cases e:i=nm<;>simp[view,upd,e,hq,Hid.jC,hf]
  case mq=>simp only[view,upd,N.bF,reduceCtorEq,if_false];rw[oE _ _ _ λi=>(i,pV (A.queue i))]
  all_goals simp[view,upd]<;>rfl
 ·cases r
  case eQ i=>by_cases e:i=nm<;>simp[cI,upd,e,CS,Hid.jC]
  all_goals simp[cI,upd]<;>rfl
def aq.akj (a:aq A H n X U)(hq:n.q? nm=some q)(f:QN->QN)(hf:(f q).cons=q.cons)(hr:(f q).ready=[]):
 aq A (H.jC nm (.slice none 0 0)) (n.bF nm f) X (U.set (A.queue nm) (fy nm (.slice none 0 0) (f q).held (f q).last (H.cv nm))):=by
 have h1:=Hl.sub (w':=upd (view n A H X) (.eQ nm) none) a (λr=>by by_cases e:r=.eQ nm<;>simp[upd,e]);have h2:=Hl.uM h1 (r:=.queue nm) (by simp[upd,view,hq]) (fy nm (.slice none 0 0) (f q).held (f q).last (H.cv nm));refine Hl.congr h2 (λr=>?_) (λr bX=>?_)
 ·cases r
  case queue i=>by_cases e:i=nm<;>simp[view,upd,e,hq,Hid.jC]
  case eQ i=>
   by_cases e:i=nm
   ·simp[view,upd,e,hq,Hid.jC,zx,kJ,hr]
   ·simp[view,upd,e,Hid.jC]
  case il i=>by_cases e:i=nm<;>simp[view,upd,e,hq,Hid.jC,hf]
  case mq=>simp only[view,upd,N.bF,reduceCtorEq,if_false];rw[oE _ _ _ λi=>(i,pV (A.queue i))]
  all_goals simp[view,upd]<;>rfl
 ·cases r
  case eQ i=>
   by_cases e:i=nm
   ·subst e;simp[view,hq,Hid.jC,zx,kJ,hr]at bX
   ·simp[cI,e,Hid.jC]
  all_goals simp[cI]<;>rfl
def aq.ah1 (a:aq A H n X U)(hq:n.q? nm=some q){rv:Value}(f:QN->QN)(hf:(f q).cons=q.cons)(hn:kJ (H.rv nm)=false)(Dl:kJ rv=false)(hm:gz U (f q).ready rv)(hb:pG rv=pG (H.rv nm)):
 aq A (H.jC nm rv) (n.bF nm f) X (U.set (A.queue nm) (fy nm rv (f q).held (f q).last (H.cv nm))):=by
 obtain⟨o,h1,h2⟩:=ajs hm Dl;have:=a.Mk hq (b:=pG rv) f hf (by rw[hb];exact Hl.apart a (.eQ nm) (by rw[T0 hq hn];rfl)) h2 rfl;rwa[Gr h1]at this
def aq.Uq (a:aq A H n X U)(hq:n.q? nm=some q){cv:Value}(f:QN->QN)(hf:(f q).ready=q.ready)(hb:Apart (view n A H X) (cI A H X) (.il nm) b)(ho:oB (.il cv ((f q).cons.map λk=>pV (A.cons k))) o)(CS:pG cv=b):
 aq A (H.px nm cv) (n.bF nm f) X ((U.set b o).set (A.queue nm) (fy nm (H.rv nm) (f q).held (f q).last cv)):=by
 have h1:=Hl.put a hb ho;have h2:=Hl.uM h1 (r:=.queue nm) (by simp[upd,view,hq]) (fy nm (H.rv nm) (f q).held (f q).last cv);have e2:upd (cI A H X) (.il nm) b (.queue nm)=A.queue nm:=by simp[upd,cI]
 rw[e2]at h2
 have kX:¬(kJ cv=true/\(f q).cons=[]):=by rintro⟨e,_⟩;obtain⟨_,_,e2,_⟩:=ho;rw[GM e]at e2;simp at e2
 refine Hl.congr h2 (λr=>?_) (λr hr=>?_)
 ·cases r
  case queue i=>by_cases e:i=nm<;>simp[view,upd,e,hq,Hid.px]
  case il i=>by_cases e:i=nm<;>simp[view,upd,e,hq,Hid.px,Cb,kX]
  case eQ i=>by_cases e:i=nm<;>simp[view,upd,e,hq,Hid.px,hf]
  case mq=>simp only[view,upd,N.bF,reduceCtorEq,if_false];rw[oE _ _ _ λi=>(i,pV (A.queue i))]
  all_goals simp[view,upd]<;>rfl
 ·cases r
  case il i=>by_cases e:i=nm<;>simp[cI,upd,e,CS,Hid.px]
  all_goals simp[cI,upd]<;>rfl
def aq.O7 (a:aq A H n X U)(k:Int):aq A H {n with xs:=cH n.xs k} X U:=
 Hl.sub a (λr=>by
  cases r
  case cons j=>
   by_cases e:j=k
   ·exact .inl (by simp[view,N.x?,BX,e])
   ·exact .inr (by simp[view,N.x?,BX,e])
  all_goals exact .inr rfl)
def aq.iE (a:aq A H n X U)(hb:U.f b=none)(o:Obj):aq A H n ((b,o)::X) (U.set b o):=by
 have hd:∀r,(∃i,r=.ext i)\/(view n A H X r=view n A H ((b,o)::X) r/\cI A H X r=cI A H ((b,o)::X) r):=λr=>by cases r<;>first|exact .inr ⟨rfl,rfl⟩|exact .inl ⟨_,rfl⟩
 have aE:∀r v,view n A H X r=some v->cI A H X r≠b:=λr v hv e=>by obtain⟨o',h1,_⟩:=a.has r v hv;rw[e,hb]at h1;cases h1
 have es:∀i,view n A H ((b,o)::X) (.ext (i+1))=view n A H X (.ext i):=λi=>by simp[view]
 have ea:∀i,cI A H ((b,o)::X) (.ext (i+1))=cI A H X (.ext i):=λi=>by simp[cI]
 have e0:view n A H ((b,o)::X) (.ext 0)=some (.obj o):=by simp[view]
 have IW:cI A H ((b,o)::X) (.ext 0)=b:=by simp[cI]
 have key:∀r,r=.ext 0\/∃r',(r=r'/\(∀i,r≠.ext i)\/∃i,r=.ext (i+1)/\r'=.ext i)/\view n A H ((b,o)::X) r=view n A H X r'/\cI A H ((b,o)::X) r=cI A H X r':=by
  intro r;rcases hd r with⟨i,rfl⟩|⟨h1,h2⟩
  ·cases i with
   |zero=>exact .inl rfl
   |succ i=>exact .inr ⟨.ext i,.inr ⟨i,rfl,rfl⟩,es i,ea i⟩
  ·by_cases he:∃i,r=.ext i
   ·obtain⟨i,rfl⟩:=he
    cases i with
    |zero=>exact .inl rfl
    |succ i=>exact .inr ⟨.ext i,.inr ⟨i,rfl,rfl⟩,es i,ea i⟩
   ·exact .inr ⟨r,.inl ⟨rfl,λi e=>he ⟨i,e⟩⟩,h1.symm,h2.symm⟩
 refine⟨λr v hv=>?_,λr r' hr gC e=>?_⟩
 ·rcases key r with rfl|⟨r',_,h1,h2⟩
  ·rw[e0]at hv;cases hv
   exact⟨o,by rw[IW];exact Hp.bD _ _,rfl⟩
  ·rw[h1]at hv;rw[h2];obtain⟨o',k1,k2⟩:=a.has r' v hv;exact⟨o',by rw[Hp.ay (aE r' v hv)];exact k1,k2⟩
 ·obtain⟨v,hv⟩:=Option.isSome_iff_exists.1 hr;obtain⟨v',GC⟩:=Option.isSome_iff_exists.1 gC;rcases key r with rfl|⟨s,hs,h1,h2⟩<;>rcases key r' with rfl|⟨s',cS,ru,kS⟩
  ·rfl
  ·rw[IW,kS]at e;rw[ru]at GC;exact absurd e.symm (aE _ _ GC)
  ·rw[IW,h2]at e;rw[h1]at hv;exact absurd e (aE _ _ hv)
  ·rw[h2,kS]at e;have:=a.inj s s' (by rw[<-h1];exact hr) (by rw[<-ru];exact gC) e;subst this;rcases hs with⟨rfl,g1⟩|⟨i,rfl,rfl⟩<;>rcases cS with⟨rfl,g2⟩|⟨j,rfl,g3⟩
   ·rfl
   ·exact absurd g3 (g1 j)
   ·exact absurd rfl (g2 i)
   ·cases g3;rfl
def aq.oL {p:Nat×Obj}(a:aq A H n (p::X) U):aq A H n X U:=by
 have key:∀r,∃r',view n A H X r=view n A H (p::X) r'/\cI A H X r=cI A H (p::X) r'/\(r'=r/\(∀i,r≠.ext i)\/∃i,r=.ext i/\r'=.ext (i+1)):=by
  intro r;by_cases he:∃i,r=.ext i
  ·obtain⟨i,rfl⟩:=he;exact⟨.ext (i+1),by simp[view],by simp[cI],.inr ⟨i,rfl,rfl⟩⟩
  ·refine⟨r,?_,?_,.inl ⟨rfl,λi e=>he ⟨i,e⟩⟩⟩<;>cases r<;>first|rfl|exact absurd ⟨_,rfl⟩ he
 refine⟨λr v hv=>?_,λr s hr hs e=>?_⟩
 ·obtain⟨r',h1,h2,_⟩:=key r;rw[h2];exact a.has r' v (by rw[<-h1];exact hv)
 ·obtain⟨r',h1,h2,h3⟩:=key r;obtain⟨s',g1,g2,g3⟩:=key s;have:=a.inj r' s' (by rw[<-h1];exact hr) (by rw[<-g1];exact hs) (by rw[<-h2,<-g2];exact e);subst this;rcases h3 with⟨rfl,f1⟩|⟨i,rfl,rfl⟩<;>rcases g3 with⟨rfl,f2⟩|⟨j,rfl,e2⟩
  ·rfl
  ·exact absurd e2 (f1 _)
  ·exact absurd rfl (f2 _)
  ·cases e2;rfl
def aq.zE (a:aq A H n X U){i:Nat}{p:Nat×Obj}(hi:X[i]? =some p)(o:Obj):aq A H n (X.set i (p.1,o)) (U.set p.1 o):=by
 have hl:i<X.length:=(List.getElem?_eq_some_iff.1 hi).1;have e:cI A H X (.ext i)=p.1:=by simp[cI,hi]
 have h1:=Hl.uM a (r:=.ext i) (by simp[view,hi]) o;rw[e]at h1;refine Hl.congr h1 (λr=>?_) (λr hr=>?_)
 ·cases r
  case ext j=>
   by_cases e:i=j
   ·subst e;simp[view,upd,hl]
   ·have:¬Ref.ext j=.ext i:=λx=>e (by cases x;rfl);simp[view,upd,List.getElem?_set_ne e,this]
  all_goals simp[view,upd]
 ·cases r
  case ext j=>
   by_cases e:i=j
   ·subst e;obtain⟨_,e⟩:=List.getElem?_eq_some_iff.1 hi;simp[cI,hl,e]
   ·simp[cI,List.getElem?_set_ne e]
  all_goals simp[cI]
def aq.uL {p:Nat×Obj}(a:aq A H n (p::X) U)(o:Obj):aq A H n ((p.1,o)::X) (U.set p.1 o):=a.zE (i:=0) rfl o
end
variable {n:N}{no:Nat}{nm:List UInt8}{k:Int}{h:HN}{q:QN}
structure Wf (n:N):Prop where
 un:∀id no h,n.h? id no=some h->∀e∈h.un,(n.q? e.2.1).isSome
 xq:∀k x,n.x? k=some x->(n.q? x.q).isSome
 xh:∀k x,n.x? k=some x->∃h,n.h? x.id x.no=some h/\bw h.co x.tag=some k
 co:∀id no h,n.h? id no=some h->∀e∈h.co,∃x,n.x? e.2=some x/\x.id=id/\x.no=no/\x.tag=e.1
 qc:∀nm q,n.q? nm=some q->∀k∈q.cons,∃x,n.x? k=some x/\x.q=nm
section
variable {n:N}{no:Nat}{nm:List UInt8}{f:CN->CN}{k:Int}{H:Hid}{X:Ext}{U:Hp}{c:CN}{h:HN}{q:QN}{x:XN}{o:Obj}{b:Nat}{A':Lay}{H':Hid}
variable {A:Lay}{id:Int}
def ah9 {id:Int}{c:CN}(h:(id,c)∈n.aD):(n.ar id).isSome:=by
 cases e:n.ar id with
 |none=>exact absurd rfl (iF e _ h)
 |some _=>rfl
def ah8 {no:Nat}{h:HN}{c:CN}(hc:n.ar id=some c)(hm:(no,h)∈c.ch):(n.h? id no).isSome:=by
 unfold N.h?;rw[hc,Option.bind_some]
 cases e:bw c.ch no with
 |none=>exact absurd rfl (iF e _ hm)
 |some _=>rfl
def xB {nm:List UInt8}{q:QN}(h:(nm,q)∈n.aL):(n.q? nm).isSome:=by
 cases e:n.q? nm with
 |none=>exact absurd rfl (iF e _ h)
 |some _=>rfl
structure Nb (n:N) (A A':Lay) (H H':Hid):Prop where
 gw:A'.gw=A.gw
 br:A'.br=A.br
 mq:A'.mq=A.mq
 mc:A'.mc=A.mc
 l1:A'.L1=A.L1
 conn:∀id,(n.ar id).isSome->A'.conn id=A.conn id/\H'.chm id=H.chm id
 chan:∀id no,(n.h? id no).isSome->A'.chan id no=A.chan id no/\A'.un id no=A.un id no/\A'.co id no=A.co id no
 queue:∀nm,(n.q? nm).isSome->A'.queue nm=A.queue nm/\H'.rv nm=H.rv nm/\H'.cv nm=H.cv nm
 cons:∀k,(n.x? k).isSome->A'.cons k=A.cons k
def adW (hh:n.h? id no=some h):(n.ar id).isSome:=by obtain⟨c,hc⟩:=xd hh;rw[hc];rfl
def aq.Hg (a:aq A H n X U)(w:Wf n)(g:Nb n A A' H H'):aq A' H' n X U:=by
 have hv:∀r,view n A' H' X r=view n A H X r:=by
  intro r
  cases r with
  |b0|ext=>rfl
  |b1=>simp[view,g.l1]
  |gw=>simp[view,g.br,g.mc]
  |br=>simp[view,g.mq]
  |mq=>simp only[view];congr 2;exact List.map_congr_left λe he=>by rw[(g.queue e.1 (xB he)).1]
  |mc=>simp only[view];congr 2;exact List.map_congr_left λe he=>by rw[(g.conn e.1 (ah9 he)).1]
  |conn id=>simp only[view];cases hc:n.ar id with
   |none=>rfl
   |some c=>simp[g.gw,(g.conn id (by rw[hc];rfl)).2]
  |chm id=>simp only[view];cases hc:n.ar id with
   |none=>rfl
   |some c=>simp only[Option.map_some];congr 2;exact List.map_congr_left λe he=>by rw[(g.chan id e.1 (ah8 hc he)).1]
  |chan id no=>simp only[view];cases hh:n.h? id no with
   |none=>rfl
   |some h=>obtain⟨_,e2,e3⟩:=g.chan id no (by rw[hh];rfl);simp[e2,e3,(g.conn id (adW hh)).1]
  |un id no=>simp only[view];cases hh:n.h? id no with
   |none=>rfl
   |some h=>simp only[Option.map_some];congr 2;exact List.map_congr_left λe he=>by rw[(g.queue e.2.1 (w.un id no h hh e he)).1]
  |co id no=>simp only[view];cases hh:n.h? id no with
   |none=>rfl
   |some h=>simp only[Option.map_some];congr 2;exact List.map_congr_left λe he=>by obtain⟨x,hx,_⟩:=w.co id no h hh e he;rw[g.cons e.2 (by rw[hx];rfl)]
  |queue nm=>simp only[view];cases hq:n.q? nm with
   |none=>rfl
   |some q=>obtain⟨_,e2,e3⟩:=g.queue nm (by rw[hq];rfl);simp[e2,e3]
  |eQ nm=>simp only[view];cases hq:n.q? nm with
   |none=>rfl
   |some q=>obtain⟨_,e2,e3⟩:=g.queue nm (by rw[hq];rfl);simp[e2]
  |il nm=>simp only[view];cases hq:n.q? nm with
   |none=>rfl
   |some q=>
    obtain⟨_,e2,e3⟩:=g.queue nm (by rw[hq];rfl);have:(q.cons.map λk=>pV (A'.cons k))=q.cons.map λk=>pV (A.cons k):=List.map_congr_left λk hk=>by obtain⟨x,hx,_⟩:=w.qc nm q hq k hk;rw[g.cons k (by rw[hx];rfl)]
    simp[e3,this]
  |cons k=>simp only[view];cases hx:n.x? k with
   |none=>rfl
   |some x=>obtain⟨h,hh,_⟩:=w.xh k x hx;simp[(g.chan x.id x.no (by rw[hh];rfl)).1,(g.queue x.q (w.xq k x hx)).1]
 refine Hl.congr a hv (λr hr=>?_);have nn:∀{α β:Type} {o:Option α} {f:α->β},(o.map f).isSome->o.isSome:=λh=>by simpa using h
 have nb:∀{α β:Type} {o:Option α} {f:α->Option β},(o.bind f).isSome->o.isSome:=λ{α β o f} h=>by cases o with|none=>cases h|some=>rfl
 cases r with
 |b0|b1|ext=>rfl
 |gw=>exact g.gw
 |br=>exact g.br
 |mq=>exact g.mq
 |mc=>exact g.mc
 |conn id=>exact(g.conn id (nn hr)).1
 |chm id=>exact(g.conn id (nn hr)).2
 |chan id no=>exact(g.chan id no (nn hr)).1
 |un id no=>exact(g.chan id no (nn hr)).2.1
 |co id no=>exact(g.chan id no (nn hr)).2.2
 |queue nm=>exact(g.queue nm (nn hr)).1
 |eQ nm=>simp only[cI];rw[(g.queue nm (nb hr)).2.1]
 |il nm=>simp only[cI];rw[(g.queue nm (nb hr)).2.2]
 |cons k=>exact g.cons k (nn hr)
def Lay.tk (A:Lay)(nm:List UInt8)(b:Nat):Lay:={A with queue:=λx=>if x=nm then b else A.queue x}
def Ms {α β:Type}[DecidableEq α]{f:α->Option β}{a x:α}(h:f a=none)(hx:(f x).isSome):¬x=a:=λe=>by subst e;rw[h]at hx;cases hx
def aq.ajM (a:aq A H n X U)(w:Wf n)(hq:n.q? nm=none)(hb:U.f b=none)(ho:oB (.xG ((cJ cN n.aL nm ⟨[],0,0,[]⟩).map λe=>(e.1,pV ((A.tk nm b).queue e.1)))) o):
 aq (A.tk nm b) ((H.jC nm (.slice none 0 0)).px nm (.slice none 0 0)) {n with aL:=cJ cN n.aL nm ⟨[],0,0,[]⟩} X ((U.set b (fy nm (.slice none 0 0) 0 0 (.slice none 0 0))).set A.mq o):=by
 have h0:=a.Hg w (A':=A.tk nm b) (H':=(H.jC nm (.slice none 0 0)).px nm (.slice none 0 0)) ⟨rfl,rfl,rfl,rfl,rfl,λ_ _=>⟨rfl,rfl⟩,λ_ _ _=>⟨rfl,rfl,rfl⟩,λx hx=>by simp[Lay.tk,Hid.jC,Hid.px,Ms (f:=n.q?) hq hx],λ_ _=>rfl⟩;have h1:=Hl.put h0 (r:=.queue nm) (b:=b) (v:=.obj (fy nm (.slice none 0 0) 0 0 (.slice none 0 0))) (Hl.tC h0 _ hb) (_root_.id rfl)
 have e1:upd (cI (A.tk nm b) ((H.jC nm (.slice none 0 0)).px nm (.slice none 0 0)) X) (.queue nm) b=cI (A.tk nm b) ((H.jC nm (.slice none 0 0)).px nm (.slice none 0 0)) X:=by
  funext r;unfold upd;split
  ·rename_i e;subst e;simp[cI,Lay.tk]
  ·rfl
 rw[e1]at h1;have h2:=Hl.set h1 (r:=.mq) (by simp[upd,view]) ho;refine Hl.congr h2 (λr=>?_) (λ_ _=>rfl);have qK:∀i,N.q? {n with aL:=cJ cN n.aL nm ⟨[],0,0,[]⟩} i=if i=nm then some ⟨[],0,0,[]⟩else n.q? i:=λi=>yr _ _ _ _ hq
 cases r
 case queue i=>by_cases e:i=nm<;>simp[view,upd,e,qK,Hid.jC,Hid.px]
 case eQ i=>
  by_cases e:i=nm
  ·subst e;simp[view,upd,qK,hq,Hid.jC,Hid.px,zx,kJ]
  ·simp[view,upd,e,qK]
 case il i=>
  by_cases e:i=nm
  ·subst e;simp[view,upd,qK,hq,Hid.jC,Hid.px,Cb,kJ]
  ·simp[view,upd,e,qK]
 all_goals simp[view,upd]<;>rfl
def Lay.BA (A:Lay)(k:Int)(b:Nat):Lay:={A with cons:=λx=>if x=k then b else A.cons x}
end
@[go_sem] def ast{x:Array Operand}{a:Array TypeId}:cW (.call ⟨.builtin .copy,x,a⟩)=false:=bj
variable {P:Program}{n:Nat}
def aiH{v:Value}(h:s7 v=some n){Q:Nat->Hp->Prop}{H:Halt->Hp->Prop}(k:Q n U):wpS P (Builtin.lenOf v) Q H U:=by cases v<;>first|(simp only[s7,Option.some.injEq]at h;subst h;exact k)|cases h
variable {E:Env P}{I:av}{ds:List Deferred}{dst:Option Tmp}{ty:TypeId}{pos:String}{af:Array Edge}{g:Option (Nat×Bool)}{nx:av->List Deferred->Hp->Prop}{pn:List PanicEntry->Hp->Prop}{t u:TypeId}{x y:Operand}{off:Nat}{e:TypeId}{L:List Value}
def Fy(el:oC P t){dl dc k:Nat}{new:List Value}(hx:ai I x=.slice (some ⟨b,off,none⟩) dl dc)(hn:s7 (ai I y)=some k)(iL:iM U el.z (Nat.min k dl) (ai I y)=some new.toArray)(hb:U.f b=some (.cells L.toArray e (0,0)))(hle:off+new.length<=L.length)(kI:new.all di=true)(h:nx (aA I dst (goInt (Nat.min k dl))) ds (U.set b (.cells (L.take off++new++L.drop (off+new.length)).toArray e (0,0)))):
 aS E ⟨dst,.call ⟨.builtin .copy,#[x,y],#[t,u]⟩,ty,pos,af,g⟩ I ds U nx pn:=by
 have ji:=el.hu;obtain⟨i,zv,hi,hz,hzero,A0,eU⟩:=el.hi;show wpOp E _ I ds U nx pn;unfold wpOp;simp only[execOp,resolve,aF,bl,invoke];show wpS P (do pure (Next.value (<-Builtin.copy_ #[t,u] ty (#[x,y].map (ai I)))):Sem Next) _ _ _;rw[lE];have e1: #[x,y].map (ai I)= #[.slice (some ⟨b,off,none⟩) dl dc,ai I y]:=by simp[hx]
 rw[e1];simp only[Builtin.copy_,List.getElem?_toArray,List.getElem?_cons_zero,List.getElem?_cons_succ,aF,eg,ji];refine aiH hn ?_;simp only[sizeOf,aF,fO,hi,bl,hz];refine Co iL ?_;simp only[aF];refine ER (e:=e) (a:=⟨b,off,none⟩) rfl new 0 L.toArray U _ hb (aV hle) kI ?_
 have e2:(L.toArray.extract 0 (off+0)++new.toArray++L.toArray.extract (off+0+new.length) L.toArray.size:Array Value)=(L.take off++new++L.drop (off+new.length)).toArray:=by apply Array.ext';simp[List.take_of_length_le]
 rw[e2];exact h
variable {c:Nat}
def Wk(el:oC P t){base:Option Addr}{l:Nat}{k:IntKind}(hu:P.underlying u=some (.int k)){old:Array Value}(hx:ai I x=.slice base l c)(hy:ai I y=.int .i64 n)(KP:0<el.z)(AT:0<n)(hold:iM U el.z l (.slice base l c)=some old)(fJ:(2*(l+n)+192)*el.bytes<=2^48)(nU:0<el.bytes)(afq:l+n<=4611686018427387904)(hc:c<l+n)(fK:∀b cap,U.f b=none->l+n<=cap->nx (aA I dst (.slice (some ⟨b,0,none⟩) (l+n) cap)) ds (U.set b (.cells (old++Builtin.zeroCells el.zero n++Builtin.zeroCells el.zero (cap-(l+n))) el.e))):
 aS E ⟨dst,.call ⟨.builtin .append,#[x,y],#[t,u]⟩,ty,pos,af,g⟩ I ds U nx pn:=by
 have ji:=el.hu;obtain⟨i,zv,hi,hz,hzero,A0,hb⟩:=el.hi;have w1:IntKind.i64.wrap (n:Int)=n:=wrap64 aa aa
 have vG:(n:Int)*el.bytes<=2^48:=by
  have:n*el.bytes<=(2*(l+n)+192)*el.bytes:=Nat.mul_le_mul_right _ aa;have h2:n*el.bytes<=2^48:=Nat.le_trans this fJ
  exact_mod_cast h2
 have hnz:¬n*el.z=0:=Nat.ne_of_gt (Nat.mul_pos AT KP);show wpOp E _ I ds U nx pn;unfold wpOp;simp only[execOp,resolve,aF,bl,invoke];show wpS P (do pure (Next.value (<-Builtin.append_ #[t,u] ty (#[x,y].map (ai I)))):Sem Next) _ _ _;rw[lE];have e1: #[x,y].map (ai I)= #[.slice base l c,.int .i64 n]:=by simp[hx,hy]
 rw[e1];simp only[Builtin.append_,List.getElem?_toArray,List.getElem?_cons_zero,List.getElem?_cons_succ,aF,eg,ji,sizeOf,fO,hi,bl,hu];simp only[if_true,aF,asInt,asIntOf,bl,w1];have nn:¬(n:Int)<0:=aa;have n2:¬(n:Int)*(i.bytes:Int)>2^48:=by rw[hb];omega
 simp only[if_neg nn,aF,fO,hi,if_neg n2,bl,Int.toNat_natCast,Bool.not_true,Bool.false_eq_true,if_false,hz,if_neg hnz];rw[if_neg (by omega:¬l+n<=c)];simp only[aF,fO,hi,hb]
 rw[if_neg (by intro⟨h1,_⟩;have:IntKind.i64.max=9223372036854775807:=an
               omega)]
 have Gk:=nextslicecap_le hc;simp only[aF,fO,hi,hb];rw[if_neg (by have:=Nat.mul_le_mul_right el.bytes Gk;omega)];simp only[aF,HL];rw[if_neg (by simp[Question.forced])];intro tt;have AH:l+n<=(Question.appendCap (l+n) c el.e).cut tt:=by simp only[Question.cut];omega
 simp only[fO,hi,askRoom]
 have fin:wpS P (do
  let old<-Builtin.firstCells el.z l (Value.slice base l c)
  let new<-(do pure (Builtin.zeroCells (<-zeroValue el.e).cells n):Sem (Array Value))
  let r<-zeroValue el.e
  let q<-newRow el.e (old++new++Builtin.zeroCells r.cells ((Question.appendCap (l+n) c el.e).cut tt-(l+n)))
  pure (Value.slice (some q) (l+n) ((Question.appendCap (l+n) c el.e).cut tt)))
  (λv U=>pB (λv ae=>nx (aA I dst v) ds ae) (λd ae=>nx (aA I dst undef) (d::ds) ae)
   (λf args ae=>aw E f args ae (xL (λv ae=>nx (aA I dst v) ds ae) pn)) (Next.value v) U)
  (se λv ae=>pn [{v:=v,recovered:=false}] ae) U:=by
  simp only[aF];refine Co hold ?_;simp only[zeroValue,aF,fO,hi,hzero,bl,newRow,xY,A0];intro b cE;exact fK b _ cE AH
 simp only[aF]at fin;split
 ·simp only[M1];exact⟨rfl,fin⟩
 ·simp only[bl];exact fin
variable {op:BinOp}{a b:Option Addr}{m d:Nat}
@[go_sem] def asO:eO P op t (.slice a n c) (.slice b m d)=none:=by unfold eO;cases op<;>cases P.underlying t<;>first|rfl|(rename_i d;cases d<;>rfl)
@[go_sem] def asN:np P op t x y (.slice a n c) (.slice b m d)=none:=by unfold np;cases op<;>cases P.underlying t<;>first|rfl|(rename_i d;cases d<;>rfl)
@[go_sem] def aq9:cL op (.slice a n c) (.slice b m d)=none:=by cases op<;>rfl
def Pp(hu:P.underlying t=some (.slice e))(hx:ai I x=.slice b n c)(hy:ai I y=.slice none 0 0)(h:nx (aA I dst (.bool b.isNone)) ds U):
 wpOp E ⟨dst,.binOp .eql t x y u,ty,pos,af,g⟩ I ds U nx pn:=by
 unfold wpOp;simp only[execOp,hx,hy,aF];refine yD ?_ ⟨ak,ak⟩;unfold binOp;simp only[aF,bl];refine Ck λk=>?_;unfold Op.equalIn;simp only[aF,eg,hu]
 cases b<;>exact h
def Z5(el:oC P t){b:Nat}{z0:Value}(hz:el.zero= #[z0])(RY:di z0=true)(hx:ai I x=.slice (some ⟨b,off,none⟩) n c)(hb:U.f b=some (.cells L.toArray e (0,0)))(hle:off+n<=L.length)(h:nx (aA I dst (.tuple #[])) ds (U.set b (.cells (L.take off++List.replicate n z0++L.drop (off+n)).toArray e (0,0)))):
 aS E ⟨dst,.call ⟨.builtin .clear,#[x],#[t]⟩,ty,pos,af,g⟩ I ds U nx pn:=by
 have ji:=el.hu;obtain⟨i,zv,hi,gD,hzero,A0,eU⟩:=el.hi;show wpOp E _ I ds U nx pn;unfold wpOp;simp only[execOp,resolve,aF,bl,invoke];show wpS P (do pure (Next.value (<-Builtin.clear_ #[t] ty (#[x].map (ai I)))):Sem Next) _ _ _;rw[lE];have e1: #[x].map (ai I)= #[.slice (some ⟨b,off,none⟩) n c]:=by simp[hx]
 rw[e1]
 cases n with
 |zero=>
  simp only[Builtin.clear_,List.getElem?_toArray,List.getElem?_cons_zero,aF,eg,ji,bl];have:L.take off++List.replicate 0 z0++L.drop (off+0)=L:=ak;rw[this]at h
  have e0:U.set b (.cells L.toArray e (0,0))=U:=Hp.ext' λy=>by
   by_cases ey:y=b
   ·subst ey;rw[Hp.bD,hb]
   ·rw[Hp.aM _ ey]
  rw[e0]at h;exact h
 |succ n=>
  simp only[Builtin.clear_,List.getElem?_toArray,List.getElem?_cons_zero,aF,eg,ji,zeroValue,fO,hi,hzero,bl,A0,hz]
  have ez:(Builtin.zeroCells #[z0] (n+1)).toList=List.replicate (n+1) z0:=by rw[EX]
  rw[ez];refine ER (e:=e) (a:=⟨b,off,none⟩) rfl _ 0 L.toArray U _ hb (aV hle) (by simp[RY]) ?_
  have e2:(L.toArray.extract 0 (off+0)++(List.replicate (n+1) z0).toArray++L.toArray.extract (off+0+(List.replicate (n+1) z0).length) L.toArray.size:Array Value)=(L.take off++List.replicate (n+1) z0++L.drop (off+(n+1))).toArray:=by apply Array.ext';simp[List.take_of_length_le]
  rw[e2];exact h
def OH(hu:P.underlying t=some (.slice e))(hx:ai I x=.slice b n c)(h:nx (aA I dst (.int .i64 c)) ds U):
 aS E ⟨dst,.call ⟨.builtin .cap,#[x],#[t]⟩,ty,pos,af,g⟩ I ds U nx pn:=by
 show wpOp E _ I ds U nx pn;unfold wpOp;simp only[execOp,resolve,aF,bl,invoke];show wpS P (do pure (Next.value (<-Builtin.cap_ #[t] ty (#[x].map (ai I)))):Sem Next) _ _ _;rw[lE];have e1: #[x].map (ai I)= #[.slice b n c]:=by simp[hx]
 rw[e1];simp only[Builtin.cap_,List.getElem?_toArray,List.getElem?_cons_zero,aF,eg,hu];exact h
variable {lo hi:Option Operand}{K:Value->Prop}
def ana{z:Nat}(h:iJ P t=some z):ft P (.slice t x lo hi none) I U K=wK False z K (lo.map (ai I)) (hi.map (ai I)) (ai I x):=by
 obtain⟨e,he,hs,hz⟩:=Cj h;subst hz;unfold ft cT;simp only[Hr he];generalize ai I x=vx;generalize lo.map (ai I)=l;generalize hi.map (ai I)=u
 cases vx<;>try exact gn
 rename_i a n c;simp only[wK,jd]
 cases l with
 |none=>
  simp only[nE,ml]
  cases u with
  |none=>simp only[jE,jg,hs,and_true];exact vp
  |some hh=>simp only[jE,jg];cases hh<;>first|exact gn|(simp only[hs,and_true];exact vp)
 |some ll=>
  cases ll<;>try exact gn
  simp only[nE,ml]
  cases u with
  |none=>simp only[jE,jg,hs,and_true];exact vp
  |some hh=>simp only[jE,jg];cases hh<;>first|exact gn|(simp only[hs,and_true];exact vp)
@[go_sem] def as7(hs:qe P t=false):ft P (.slice t x lo hi none) I U K=qp False (λz=>wK False z K (lo.map (ai I)) (hi.map (ai I)) (ai I x)) (iJ P t):=by
 cases h:iJ P t with
 |some z=>rw[vq,ana h]
 |none=>
  rw[FC]
  have e0:cT P (.slice t x lo hi none) I U=match P.underlying t,ai I x with
   |some .string,.string s=>match nE (lo.map (ai I)),jE s.size (hi.map (ai I))with
    |some l,some h=>if 0<=l/\l<=h/\h<=s.size then some (.string (s.extract l.toNat h.toNat))else none
    |_,_=>none
   |some (.slice e),.slice a n c=>match nE (lo.map (ai I)),jE n (hi.map (ai I))with
    |some l,some h=>if 0<=l/\l<=h/\h<=c/\(P.info? e).isSome=true then
     some (.slice (if c=l.toNat then a else a.map (·.add (l.toNat*cC P e))) (h.toNat-l.toNat) (c-l.toNat))else none
    |_,_=>none
   |_,_=>none:=rfl
  have key:cT P (.slice t x lo hi none) I U=none:=by
   rw[e0];split
   ·rename_i hu _;simp[qe,hu]at hs
   ·rename_i e a n c hu _
    have hi:(P.info? e).isSome=false:=by
     cases hh:P.info? e with
     |none=>rfl
     |some i=>simp[iJ,tn,hu,hh]at h
    simp only[hi,Bool.false_eq_true,and_false,if_false];split<;>rfl
   ·rfl
  unfold ft;rw[key];exact gn
end Go.Qw
