/- 26 -/
import Derived.Test.YtpiabknabfbfhaaGreatDoorFramed25
set_option linter.all false
set_option maxRecDepth 100000
set_option maxHeartbeats 8000000
namespace Go.Qw
open Go Go.Conc Go.Proofs Go.Proofs.Tryz
section
variable {A':Lay}{H:Hid}{H':Hid}{n:N}{X:Ext}{U:Hp}{no:Nat}{c:CN}{h:HN}{o:Obj}{b:Nat}
variable {A:Lay}{id:Int}
def mr (id:Int)(p:Nat->Bool):Ref->Bool
 | .chan i j| .un i j| .co i j=>decide (i=id)&&p j
 |_=>false
def Hl.forget {w:Ref->Option V}{ad:Ref->Nat}(h:Hl w ad U)(f:Ref->Bool):Hl (λr=>if f r then none else w r) ad U:=
 h.sub λr=>by cases h:f r<;>simp[h]
def aq.abd (a:aq A H n X U)(hc:n.ar id=some c)(hb:U.f b=none)(f:CN->CN)(hf:(f c).ch=[]):
 aq A (H.uK id b) (n.dn id f) X ((U.set b (aU aW [] 0)).set (A.conn id) (fu A.gw id b (f c).r)):=by
 have h0:=Hl.forget a (mr id λ_=>true);have h1:=Hl.put h0 (r:=.chm id) (b:=b) (v:=.pk []) (Hl.tC h0 _ hb) ⟨[],0,rfl,⟨by simp[jI],ak,ak⟩,ak⟩;have h2:=Hl.uM h1 (r:=.conn id) (by simp[upd,view,hc,mr]) (fu A.gw id b (f c).r);have e2:upd (cI A H X) (.chm id) b (.conn id)=A.conn id:=by simp[upd,cI]
 rw[e2]at h2
 have hh:∀i j,(n.dn id f).h? i j=if i=id then none else n.h? i j:=λi j=>by
  unfold N.h?;rw[ql];by_cases e:i=id
  ·subst e;simp[hc,hf,bw]
  ·simp[e]
 refine Hl.congr h2 (λr=>?_) (λr hr=>?_)
 ·cases r
  case conn i=>by_cases e:i=id<;>simp[view,upd,e,hc,mr,Hid.uK]
  case chm i=>by_cases e:i=id<;>simp[view,upd,e,hc,mr,hf]
  case chan i j=>by_cases e:i=id<;>simp[view,upd,e,hh,mr]
  case un i j=>by_cases e:i=id<;>simp[view,upd,e,hh,mr]
  case co i j=>by_cases e:i=id<;>simp[view,upd,e,hh,mr]
  case mc=>simp only[view,upd,N.dn,mr,reduceCtorEq,if_false];rw[oE _ _ _ λi=>(i,pV (A.conn i))]
  all_goals simp[view,upd,mr]<;>rfl
 ·cases r
  case chm i=>by_cases e:i=id<;>simp[cI,upd,e,Hid.uK]
  all_goals simp[cI,upd]<;>rfl
def aq.aaQ (a:aq A H n X U)(hc:n.ar id=some c)(no:Nat)(ho:oB (.pk ((cH c.ch no).map λe=>((e.1:Int),pV (A.chan id e.1)))) o):
 aq A H (n.dn id λc=>{c with ch:=cH c.ch no}) X (U.set (H.chm id) o):=by
 have h0:=Hl.forget a (mr id λj=>decide (j=no));have h1:=Hl.set h0 (r:=.chm id) (by simp[view,hc,mr]) ho
 have hh:∀i j,(n.dn id λc=>{c with ch:=cH c.ch no}).h? i j=if i=id/\j=no then none else n.h? i j:=λi j=>by
  unfold N.h?;rw[ql];by_cases e:i=id
  ·subst e;simp[hc,BX]
  ·simp[e]
 refine Hl.congr h1 (λr=>?_) (λr hr=>rfl)
 cases r
 case conn i=>by_cases e:i=id<;>simp[view,upd,e,hc,mr]
 case chm i=>by_cases e:i=id<;>simp[view,upd,e,hc,mr]
 case chan i j=>by_cases e:i=id<;>by_cases e2:j=no<;>simp[view,upd,e,e2,hh,mr]
 case un i j=>by_cases e:i=id<;>by_cases e2:j=no<;>simp[view,upd,e,e2,hh,mr]
 case co i j=>by_cases e:i=id<;>by_cases e2:j=no<;>simp[view,upd,e,e2,hh,mr]
 case mc=>simp only[view,upd,N.dn,mr,reduceCtorEq,if_false];rw[oE _ _ _ λi=>(i,pV (A.conn i))]
 all_goals simp[view,upd,mr]<;>rfl
def Lay.setChan (A:Lay)(id:Int)(no:Nat)(hb ub cb:Nat):Lay:={A with
 chan:=λi j=>if i=id/\j=no then hb else A.chan i j
 un:=λi j=>if i=id/\j=no then ub else A.un i j
 co:=λi j=>if i=id/\j=no then cb else A.co i j}
def aq.ajK (a:aq A H n X U)(w:Wf n)(hc:n.ar id=some c)(hn:bw c.ch no=none){hb ub cb:Nat}(h1:U.f ub=none)(h2:U.f cb=none)(h3:U.f hb=none)(n1:cb≠ub)(n2:hb≠ub)(n3:hb≠cb)
 (ho:oB (.pk ((cJ kK c.ch no ⟨fV,[],[]⟩).map λe=>((e.1:Int),pV ((A.setChan id no hb ub cb).chan id e.1)))) o):
 aq (A.setChan id no hb ub cb) H (n.dn id λc=>{c with ch:=cJ kK c.ch no ⟨fV,[],[]⟩}) X
  ((((U.set ub (aU aW [] 0)).set cb (aU bP [] 0)).set hb (ix (A.conn id) no ub cb fV)).set (H.chm id) o):=by
 have tV:n.h? id no=none:=by simp[N.h?,hc,hn]
 have h0:=a.Hg w (A':=A.setChan id no hb ub cb) (H':=H) ⟨rfl,rfl,rfl,rfl,rfl,λ_ _=>⟨rfl,rfl⟩,λi j hj=>by
  have:¬(i=id/\j=no):=λe=>by rw[e.1,e.2,tV]at hj;cases hj
  simp[Lay.setChan,this],λ_ _=>⟨rfl,rfl,rfl⟩,λ_ _=>rfl⟩
 have g1:=Hl.put h0 (r:=.un id no) (b:=ub) (v:=.pk []) (Hl.tC h0 _ h1) ⟨[],0,rfl,⟨by simp[jI],ak,ak⟩,ak⟩;have g2:=Hl.put g1 (r:=.co id no) (b:=cb) (v:=.xG []) (Hl.tC g1 _ (by rw[Hp.ay n1];exact h2)) ⟨[],0,rfl,⟨by simp[jI],ak,ak⟩,ak⟩;have g3:=Hl.put g2 (r:=.chan id no) (b:=hb) (v:=.obj (ix (A.conn id) no ub cb fV)) (Hl.tC g2 _ (by rw[Hp.ay n3,Hp.ay n2];exact h3)) (_root_.id rfl);have g4:=Hl.set g3 (r:=.chm id) (by simp[upd,view,hc]) ho;have e4:upd (upd (upd (cI (A.setChan id no hb ub cb) H X) (.un id no) ub) (.co id no) cb) (.chan id no) hb (.chm id)=H.chm id:=by simp[upd,cI]
 rw[e4]at g4
 have hh:∀i j,(n.dn id λc=>{c with ch:=cJ kK c.ch no ⟨fV,[],[]⟩}).h? i j=if i=id/\j=no then some ⟨fV,[],[]⟩else n.h? i j:=λi j=>by
  unfold N.h?;rw[ql];by_cases e:i=id
  ·subst e;simp[hc,yr _ _ _ _ hn]
  ·simp[e]
 refine Hl.congr g4 (λr=>?_) (λr hr=>?_)
 ·cases r
  case conn i=>by_cases e:i=id<;>simp[view,upd,e,hc]<;>rfl
  case chm i=>by_cases e:i=id<;>simp[view,upd,e,hc]
  case chan i j=>by_cases e:i=id/\j=no<;>simp[view,upd,e,hh]<;>simp[Lay.setChan]
  case un i j=>by_cases e:i=id/\j=no<;>simp[view,upd,e,hh]
  case co i j=>by_cases e:i=id/\j=no<;>simp[view,upd,e,hh]
  case mc=>simp only[view,upd,N.dn,reduceCtorEq,if_false];rw[oE _ _ _ λi=>(i,pV ((A.setChan id no hb ub cb).conn i))]
  all_goals simp[view,upd]<;>rfl
 ·cases r
  case chan i j=>by_cases e:i=id/\j=no<;>simp[cI,upd,e,Lay.setChan]
  case un i j=>by_cases e:i=id/\j=no<;>simp[cI,upd,e,Lay.setChan]
  case co i j=>by_cases e:i=id/\j=no<;>simp[cI,upd,e,Lay.setChan]
  all_goals simp[cI,upd]<;>rfl
def Lay.qY (A:Lay)(id:Int)(b:Nat):Lay:={A with conn:=λi=>if i=id then b else A.conn i}
def aq.ajL (a:aq A H n X U)(w:Wf n)(hn:n.ar id=none){m:Nat}(h1:U.f m=none)(h2:U.f b=none)(n1:b≠m)(r0:CR)(ho:oB (.pk ((n.aD++[(id,(⟨r0,[]⟩:CN))]).map λe=>(e.1,pV ((A.qY id b).conn e.1)))) o):
 aq (A.qY id b) (H.uK id m) {n with aD:=n.aD++[(id,⟨r0,[]⟩)]} X (((U.set m (aU aW [] 0)).set b (fu A.gw id m r0)).set A.mc o):=by
 have h0:=a.Hg w (A':=A.qY id b) (H':=H.uK id m) ⟨rfl,rfl,rfl,rfl,rfl,λi hi=>by simp[Lay.qY,Hid.uK,Ms (f:=n.ar) hn hi],λ_ _ _=>⟨rfl,rfl,rfl⟩,λ_ _=>⟨rfl,rfl,rfl⟩,λ_ _=>rfl⟩;have g1:=Hl.put h0 (r:=.chm id) (b:=m) (v:=.pk []) (Hl.tC h0 _ h1) ⟨[],0,rfl,⟨by simp[jI],ak,ak⟩,ak⟩;have g2:=Hl.put g1 (r:=.conn id) (b:=b) (v:=.obj (fu A.gw id m r0)) (Hl.tC g1 _ (by rw[Hp.ay n1];exact h2)) (_root_.id rfl);have g3:=Hl.set g2 (r:=.mc) (by simp[upd,view]) ho;have e3:upd (upd (cI (A.qY id b) (H.uK id m) X) (.chm id) m) (.conn id) b .mc=A.mc:=by simp[upd,cI,Lay.qY]
 rw[e3]at g3
 have cR:∀i,N.ar {n with aD:=n.aD++[(id,⟨r0,[]⟩)]} i=if i=id then some ⟨r0,[]⟩else n.ar i:=by
  intro i;unfold N.ar bw;simp only[List.find?_append,List.find?_cons,List.find?_nil];by_cases e:i=id
  ·subst e;have:(n.aD.find? λe=>decide (e.1=i))=none:=by unfold N.ar bw at hn;simpa using hn
   simp[this]
  ·have e2:¬id=i:=λz=>e z.symm;simp[e2,e]
 have hh:∀i j,N.h? {n with aD:=n.aD++[(id,⟨r0,[]⟩)]} i j=n.h? i j:=λi j=>by
  unfold N.h?;rw[cR];by_cases e:i=id
  ·subst e;simp[hn,bw]
  ·simp[e]
 refine Hl.congr g3 (λr=>?_) (λr hr=>?_)
 ·cases r
  case conn i=>by_cases e:i=id<;>simp[view,upd,e,cR]<;>simp[Lay.qY,Hid.uK]
  case chm i=>by_cases e:i=id<;>simp[view,upd,e,cR]
  case chan i j=>simp[view,upd,hh]
  case un i j=>simp[view,upd,hh]
  case co i j=>simp[view,upd,hh]
  all_goals simp[view,upd]<;>rfl
 ·cases r
  case conn i=>by_cases e:i=id<;>simp[cI,upd,e,Lay.qY]
  case chm i=>by_cases e:i=id<;>simp[cI,upd,e,Hid.uK]
  all_goals simp[cI,upd]<;>rfl
def aq.O6 (a:aq A H n X U)(id:Int)(ho:oB (.pk ((cH n.aD id).map λe=>(e.1,pV (A.conn e.1)))) o):
 aq A H {n with aD:=cH n.aD id} X (U.set A.mc o):=by
 have h1:=Hl.set a (r:=.mc) (by simp[view]) ho;refine Hl.sub h1 (λr=>?_);have cR:∀i,N.ar {n with aD:=cH n.aD id} i=if i=id then none else n.ar i:=λi=>BX _ _ _
 have hh:∀i j,N.h? {n with aD:=cH n.aD id} i j=if i=id then none else n.h? i j:=λi j=>by unfold N.h?;rw[cR];split<;>rfl
 cases r
 case conn i=>by_cases e:i=id<;>simp[view,upd,e,cR]
 case chm i=>by_cases e:i=id<;>simp[view,upd,e,cR]
 case chan i j=>by_cases e:i=id<;>simp[view,upd,e,hh]
 case un i j=>by_cases e:i=id<;>simp[view,upd,e,hh]
 case co i j=>by_cases e:i=id<;>simp[view,upd,e,hh]
 case mc=>exact .inr (by simp[view,upd])
 all_goals exact .inr (by simp[view,upd]<;>rfl)
end
section
variable {n:N}{no:Nat}{c:CN}{h:HN}{k:Int}{b:Nat}{aI:Int}{dE:Nat}
variable {id:Int}
def N.rC (n:N)(id:Int):Option CR:=(n.ar id).map λc=>c.r
def N.rH (n:N)(id:Int)(no:Nat):Option HR:=(n.h? id no).map λh=>h.r
def qS {f:HN->HN}:(n.bA id no f).rC aI=n.rC aI:=by
 unfold N.rC;rw[vl];split
 ·cases n.ar aI<;>rfl
 ·rfl
def TX {f:HN->HN}(hf:∀h,(f h).r=h.r):(n.bA id no f).rH aI dE=n.rH aI dE:=by
 unfold N.rH;rw[jN];split
 ·cases n.h? aI dE<;>simp[hf]
 ·rfl
def TS {tag:Nat}{b:Bool}:(n.settle id no tag b).rC aI=n.rC aI:=by unfold N.settle;split<;>first|rfl|exact qS
def amK {tag:Nat}{b:Bool}:(n.settle id no tag b).rH aI dE=n.rH aI dE:=by unfold N.settle;split<;>first|rfl|exact TX λ_=>rfl
def amG {k:Int}:(n.cancel k).rC aI=n.rC aI:=by unfold N.rC;rw[OS]
def amI {l:List (Nat×(List UInt8×aQ))}:(n.kM id no l).rC aI=n.rC aI:=by
 unfold N.kM
 induction l generalizing n with
 |nil=>rfl
 |cons e l ih=>rw[List.foldl_cons,ih];exact TS
def amL {l:List (Nat×(List UInt8×aQ))}:(n.kM id no l).rH aI dE=n.rH aI dE:=by
 unfold N.kM
 induction l generalizing n with
 |nil=>rfl
 |cons e l ih=>rw[List.foldl_cons,ih];exact amK
def Bu (hh:n.h? id no=some h):n.release id no=((n.jK h.co).bA id no λh=>{h with co:=[]}).kM id no h.un:=by unfold N.release;rw[hh];rfl
def Bs:(n.release id no).rC aI=n.rC aI:=by
 cases hh:n.h? id no with
 |none=>unfold N.release;rw[hh]
 |some h=>rw[Bu hh,amI,qS];unfold N.rC;rw[OT]
def TV:(n.release id no).rH aI dE=n.rH aI dE:=by
 cases hh:n.h? id no with
 |none=>unfold N.release;rw[hh]
 |some h=>rw[Bu hh,amL];refine(TX (f:=λh=>{h with co:=[]}) λ_=>rfl).trans ?_;unfold N.rH;rw[FM]
def N.gM (n:N)(id:Int)(l:List (Nat×HN)):N:=l.foldl (λn e=>n.release id e.1) n
def Es {l:List (Nat×HN)}:(n.gM id l).rC aI=n.rC aI:=by
 unfold N.gM
 induction l generalizing n with
 |nil=>rfl
 |cons e l ih=>rw[List.foldl_cons,ih];exact Bs
def anl {l:List (Nat×HN)}{j:Nat}(hj:j<l.length):n.gM id (l.take (j+1))=(n.gM id (l.take j)).release id l[j].1:=by unfold N.gM;rw[List.take_succ_eq_append_getElem hj,List.foldl_append];rfl
def Bt {r:CR}(h:n.rC id=some r):∃c,n.ar id=some c/\c.r=r:=by unfold N.rC at h;obtain⟨c,h1,h2⟩:=Option.map_eq_some_iff.1 h;exact⟨c,h1,h2⟩
def TW {r:HR}(h:n.rH id no=some r):∃c,n.h? id no=some c/\c.r=r:=by unfold N.rH at h;obtain⟨c,h1,h2⟩:=Option.map_eq_some_iff.1 h;exact⟨c,h1,h2⟩
def Br (h:n.ar id=some c):n.rC id=some c.r:=by simp[N.rC,h]
def TU (hh:n.h? id no=some h):n.rH id no=some h.r:=by simp[N.rH,hh]
structure zV (n:N) (id:Int) (c:CN):Prop where
 jq:(c.ch.map (·.1)).Pairwise (·<·)
 len:c.ch.length<=12
 step:∀j,∃cj,(n.gM id (c.ch.take j)).ar id=some cj/\cj.ch.map (·.1)=c.ch.map (·.1)
 rel:∀j (hj:j<c.ch.length),∃h,(n.gM id (c.ch.take j)).h? id c.ch[j].1=some h/\yg (n.gM id (c.ch.take j)) id c.ch[j].1 h
end
section
variable {H:Hid}{H':Hid}{n:N}{X:Ext}{U:Hp}{R:Hp}{c:CN}{h:HN}{k:Int}{o:Obj}{b:Nat}{E:Env prog}
variable {A:Lay}{id:Int}
def aq.mem (a:aq A H n X U){p:Nat×Obj}(h:p∈X):U.f p.1=some p.2:=by obtain⟨i,hi⟩:=List.getElem?_of_mem h;exact a.ext hi
def pI (a:aq A H n X U)(hc:n.ar id=some c){ch cl me:Nat}{xs:List Arg}{v:Value}(hv:zO U xs v)(fU:∀a∈xs,kP a)(hn:xs.length<=1000)
 (eF:ch<9223372036854775808) (aK:cl<9223372036854775808) (aN:me<9223372036854775808) (fJ:(bZ xs).length<=10000000) (fK:c.r.out.length<=1000000000000000):
 aw E 105 #[pV (A.conn id),iV ch,iV cl,iV me,v] U λe R=>e=.returned (.tuple #[])/\aq A H (n.send id (cg ch cl me xs)) X R:=
 (He a.gw (a.conn hc) hv fU hn eF aK aN fJ fK).mono λe R ⟨h1,h2⟩=>⟨h1,by subst h2;exact a.nD hc λr=>{r with out:=r.out++cg ch cl me xs,ib:=n.clock}⟩
def Mh (a:aq A H n X U)(hc:n.ar id=some c){s:List UInt8}(fK:c.r.out.length+s.length<=9223372036854775807):
 aw E 43 #[pV (A.conn id),sV s] U λe R=>e=.returned (.tuple #[])/\aq A H (n.send id s) X R:=
 (Uk (a.eC hc) a.jM rfl rfl rfl rfl fK (λe=>by have:=a.gw;rw[e,a.conn hc]at this;simp[fu,eE,CR.vals]at this)).mono λe R ⟨h1,h2⟩=>⟨h1,by subst h2;exact a.nD hc λr=>{r with out:=r.out++s,ib:=n.clock}⟩
def Ll (a:aq A H n X U)(hc:n.ar id=some c)(atA:zV n id c):
 aw E 53 #[pV (A.conn id)] U λe R=>e=.returned (.tuple #[])/\At A (n.leave id) X R:=by
 refine aX func53 ntmps53 results53 λQ aB al az=>?_;obtain⟨lc,kc,cG,dU,kT⟩:=a.chm hc;have AR:lc.length=c.ch.length:=by have:=kT.length_eq;simpa using this
 refine aH (a.eC hc) ?_;refine aJ (aoy cG dU.old dU.nd (by have:=atA.len;omega)) ?_;rintro v R ⟨hle,v',ys,hv,p1,p2,p3,p4⟩
 cases hv
 obtain rfl:ys=c.ch.map λe=>((e.1:Nat):Int):=by
  refine zG Ba Fh (p1.trans ?_) (p2 (by have:=atA.len;omega)) ?_
  ·have:=kT.map (·.1);simpa[List.map_map,Function.comp_def]using this
  ·have:=atA.jq;rw[dP,List.pairwise_map];rw[List.pairwise_map]at this;exact this.imp λh=>by simp[jV];omega
 obtain⟨X',a1,qU⟩:=a.zZ hle p3 p4;obtain⟨base,cap,rfl,_⟩:=p3.read;have hl:(c.ch.map λe=>((e.1:Nat):Int)).length=c.ch.length:=ak;refine aH hl ?_;refine cZ (λm I ds ae=>ds=[]/\I 0=pV (A.conn id)/\I 8=.slice base c.ch.length cap/\I 9=iV c.ch.length/\∃(j:Nat) (H':Hid),j+m=c.ch.length/\I 10=iV j/\aq A H' (n.gM id (c.ch.take j)) X' ae) c.ch.length ?_ ?_
 ·refine⟨rfl,?_,?_,?_,0,H,ak,?_,a1⟩<;>exact aP hl
 rintro m I ds dg Y ⟨rfl,h0,h8,h9,j,H1,xm,bE,aj⟩ hY;obtain⟨cj,iO,hkj⟩:=atA.step j
 cases m with
 |succ m=>
  have hj:j<c.ch.length:=aa;have c0:(j:Int)<c.ch.length:=aa;obtain⟨_,sj⟩:=qU aj;obtain⟨b2,yA,e2,r2⟩:=sj.read;simp only[Value.slice.injEq]at e2;obtain⟨rfl,_,_⟩:=e2;obtain⟨ba,L,rfl,gT,hL⟩:=r2 j (aV hj);simp only[List.getElem_map,aW]at hL;have w1:IntKind.i64.wrap ((j:Int)+1)=((j+1:Nat):Int):=by have:=atA.len;rw[wrap64 aa aa];rfl
  obtain⟨h,hh,Rh⟩:=atA.rel j hj;obtain⟨lj,kj,mS,qG,xk⟩:=aj.chm iO
  have pS:((c.ch[j].1:Int),pV (A.chan id c.ch[j].1))∈cj.ch.map λe=>((e.1:Int),pV (A.chan id e.1)):=by
   have:c.ch[j].1∈cj.ch.map (·.1):=by rw[hkj];exact List.mem_map_of_mem (List.getElem_mem hj)
   obtain⟨e,he,h2⟩:=List.mem_map.1 this;exact List.mem_map.2 ⟨e,he,by rw[h2]⟩
  obtain⟨st,bt⟩:=rP qG xk pS;simp only[go_sem,seval,h8,h9,bE,c0,decide_true];refine⟨aa,?_⟩;refine fA gT hL h0 (aj.eC iO) ?_;refine jU (b:=H1.chm id) (k:=(c.ch[j].1:Int)) (l:=lj) (c:=kj) uu (z:=.pointer none) ah ?_ mS ?_ ?_
  ·exact au
  ·exact au
  have dr:((dt lj (c.ch[j].1:Int)).map (·.2.1)).getD (.pointer none)=pV (A.chan id c.ch[j].1):=by rw[bt];rfl
  rw[if_neg Bool.false_ne_true,dr];refine ag ?_;refine aJ (Me aj iO hh Rh) ?_;rintro v2 cU ⟨lP,H2,a2⟩
  cases lP
  refine bq bE w1 ?_;refine hY m _ _ _ _ aa ⟨rfl,?_,?_,?_,j+1,H2,aa,?_,by rw[anl hj];exact a2⟩ ao
  ·exact aP h0
  ·exact aP h8
  ·exact aP h9
  ·exact au
 |zero=>
  have c0:¬(j:Int)<c.ch.length:=aa;have vD:j=c.ch.length:=aa;rw[vD,List.take_length]at aj iO;simp only[go_sem,seval,h0,h9,bE,c0,decide_false];refineλmb Ro=>?_;have a5:=λo=>aj.fresh Ro o;have f5:=λo=>(a5 o).eC iO;refine aH f5 ?_;refine aB dB ao ⟨rfl,H1.uK id mb,?_⟩;have e:n.leave id=(n.gM id c.ch).dn id λc=>{c with ch:=[]}:=by unfold N.leave;rw[hc];rfl
  rw[e];exact(qU aj).1.abd iO Ro (λc=>{c with ch:=[]}) rfl
end
def dT{A:Lay}{H:Hid}{n:N}{X:Ext}{Z Z':Hp}(a:aq A H n X Z)(e:Z=Z'):aq A H n X Z':=e▸a
def tG(e cl me:Nat):Obj:=.cells [iV e,iV cl,iV me].toArray 217 (0,0)
def PH(e cl me:Nat):(bZ (oN e cl me)).length=7:=by simp[bZ,dC,oN,cB]
section
variable {H:Hid}{n:N}{X:Ext}{U:Hp}{R:Hp}{no:Nat}{c:CN}{h:HN}{k:Int}{o:Obj}{b:Nat}{E:Env prog}{e:Nat}{cl:Nat}{me:Nat}
variable {A:Lay}{id:Int}
def aol (a:aq A H n X U)(hb:(b,tG e cl me)∈X)(hc:n.ar id=some c)(hh:n.h? id no=some h)(atA:yg n id no h)(eV:no<1000000)(he:e<1000000/\cl<1000000/\me<1000000)(fK:c.r.out.length<=100000000000000):
 aw E 151 #[pV (A.chan id no),pV b] U λe' R=>e'=.returned (.tuple #[])/\At A (n.soft id no e cl me) X R:=by
 refine aX func151 ntmps151 results151 λQ aB al az=>?_;refine ag ?_;refine aJ (Me a hc hh atA) ?_;rintro v R ⟨hv,H1,a1⟩
 cases hv
 obtain⟨c1,cG,ec⟩:=Bt (Bs.trans (Br hc));obtain⟨h1,mR,eh⟩:=TW (TV.trans (TU hh));refine aH (a1.bV mR) ?_;have a2:=a1.xR mR λr=>{r with closing:=true};generalize hZ:R.set (A.chan id no) _=cU;replace a2:=dT a2 hZ;have fi:((n.release id no).cf id no λr=>{r with closing:=true}).h? id no=some {h1 with r:={h1.r with closing:=true}}:=by simp[mR]
 have dU:∃c2,((n.release id no).cf id no λr=>{r with closing:=true}).ar id=some c2/\c2.r=c.r:=by refine Bt (qS.trans ?_);rw[Br cG,ec]
 obtain⟨c2,dU,ec2⟩:=dU;have fb:=a2.mem hb;simp only[tG]at fb;refine bJ 26 ?_;refine bq (a2.bV fi) fb ?_;refineλbn cE=>?_;have a3:=λo=>a2.fresh cE o;have f3:=λo=>(a3 o).mem hb;simp only[tG]at f3;have g3:=λo=>(a3 o).bV fi;refine Lb g3 ?_;refine ag ?_;refine aJ (pI (ch:=no) (cl:=20) (me:=40) (xs:=oN e cl me) (a3 _) dU (.inr ⟨bn,rfl,aT⟩) ?_ (by simp[oN]) aa an an (by rw[PH];decide) (by rw[ec2];omega)) ?_
 ·simp[oN,kP];omega
 rintro v gH ⟨hv,a4⟩
 cases hv
 have f4:=a4.mem hb;simp only[tG]at f4;have Kb:(((n.release id no).cf id no λr=>{r with closing:=true}).send id (cg no 20 40 (oN e cl me))).h? id no=some {h1 with r:={h1.r with closing:=true}}:=by rw[pO];exact fi
 have g4:=a4.bV Kb;refine Si f4 g4 ?_;exact aB dB ao ⟨rfl,H1,a4⟩
def QC (a:aq A H n X U)(hb:(b,tG e cl me)∈X)(hc:n.ar id=some c)(atA:zV n id c)(he:e<1000000/\cl<1000000/\me<1000000)(fK:c.r.out.length<=100000000000000):
 aw E 106 #[pV (A.conn id),pV b] U λe' R=>e'=.returned (.tuple #[])/\At A (n.cA id e cl me) X R:=by
 refine aX func106 ntmps106 results106 λQ aB al az=>?_;refine ag ?_;refine aJ (Ll a hc atA) ?_;rintro v R ⟨hv,H1,a1⟩
 cases hv
 have cG:∃c1,(n.leave id).ar id=some c1/\c1.r=c.r:=by
  have e:n.leave id=(n.gM id c.ch).dn id λc=>{c with ch:=[]}:=by unfold N.leave;rw[hc];rfl
  obtain⟨c1,cG,ec⟩:=Bt (Es.trans (Br hc):(n.gM id c.ch).rC id=some c.r);exact⟨{c1 with ch:=[]},by rw[e];simp[cG],ec⟩
 obtain⟨c1,cG,ec⟩:=cG;refine aH (a1.eC cG) ?_;have a2:=a1.nD cG λr=>{r with ph:=4};generalize hZ:R.set (A.conn id) _=cU;replace a2:=dT a2 hZ;have dU:((n.leave id).bC id λr=>{r with ph:=4}).ar id=some {c1 with r:={c1.r with ph:=4}}:=by simp[cG]
 have fb:=a2.mem hb;simp only[tG]at fb;refine bJ 19 ?_;refine aH fb ?_;refineλbn cE=>?_;have a3:=λo=>a2.fresh cE o;have f3:=λo=>(a3 o).mem hb;simp only[tG]at f3;refine⟨dL f3,?_⟩;refine ag ?_;refine aJ (pI (ch:=0) (cl:=10) (me:=50) (xs:=oN e cl me) (a3 _) dU (.inr ⟨bn,rfl,aT⟩) ?_ (by simp[oN]) aa an an (by rw[PH];decide) (by simp only;rw[ec];omega)) ?_
 ·simp[oN,kP];omega
 rintro v gH ⟨hv,a4⟩
 cases hv
 have f4:=a4.mem hb;simp only[tG]at f4;refine⟨dL f4,?_⟩;exact aB dB ao ⟨rfl,H1,a4⟩
def IY (a:aq A H n X U)(hc:n.ar id=some c)(hh:n.h? id no=some h)(atA:yg n id no h):
 aw E 243 #[pV (A.chan id no)] U λe' R=>e'=.returned (.tuple #[])/\At A (n.lJ id no) X R:=by
 refine aX func243 ntmps243 results243 λQ aB al az=>?_;refine ag ?_;refine aJ (Me a hc hh atA) ?_;rintro v R ⟨hv,H1,a1⟩
 cases hv
 obtain⟨c1,cG,ec⟩:=Bt (Bs.trans (Br hc));obtain⟨h1,mR,eh⟩:=TW (TV.trans (TU hh));obtain⟨lj,kj,mS,qG,xk⟩:=a1.chm cG;refine ag ?_;refine bJ 12 ?_;refine bq (a1.bV mR) (a1.eC cG) ?_;refine Cg (b:=H1.chm id) (k:=(no:Int)) (l:=lj) (c:=kj) uu qG.uniq ?_ mS ?_ ?_
 ·exact au
 ·exact au
 obtain⟨d1,d2⟩:=D6 qG xk (no:Int)
 have em:((c1.ch.map λe=>((e.1:Int),pV (A.chan id e.1))).filter λe=>decide (e.1≠(no:Int)))=(cH c1.ch no).map λe=>((e.1:Int),pV (A.chan id e.1)):=by unfold cH;rw[List.filter_map];congr 1;apply List.filter_congr;intro e _;simp only[Function.comp,decide_eq_decide];omega
 rw[em]at d2;have a2:=a1.aaQ cG no ⟨_,_,rfl,d1,d2⟩;have nch:¬A.chan id no=H1.chm id:=λe=>by have:=a1.chan mR;rw[e,mS]at this;simp[aU,ix]at this
 have ncn:¬A.conn id=H1.chm id:=λe=>by have:=a1.conn cG;rw[e,mS]at this;simp[aU,fu]at this
 have g2:=λo=>(Hp.ay (o:=o) nch).trans (a1.bV mR);have f2:=λo=>(Hp.ay (o:=o) ncn).trans (a1.eC cG);refine Si g2 f2 ?_;exact aB dB ao ⟨rfl,H1,a2⟩
end
section
variable {H:Hid}{n:N}{X:Ext}{U:Hp}{R:Hp}{no:Nat}{nm:List UInt8}{c:CN}{h:HN}{q:QN}{k:Int}{o:Obj}{b:Nat}{E:Env prog}{e:Nat}{m:aQ}
variable {A:Lay}{id:Int}
def QA {na:Bool}(a:aq A H n X U)(hh:n.h? id no=some h)(hq:n.q? nm=some q)(b1:0<=h.r.tag/\h.r.tag<=1000000000000)(b2:0<=q.held/\q.held<=1000000)(iL:∀e∈h.un,(e.1:Int)≠h.r.tag+1):
 aw E 291 #[pV (A.chan id no),pV (A.queue nm),m.v,.bool na] U λe R=>e=.returned (iV (h.r.tag+1))/\aq A H (n.hand id no nm m na) X R:=by
 show aw E 291 #[pV (A.chan id no),pV (A.queue nm),.agg #[iV m.seq,sV m.key,sV m.body,.bool m.again],.bool na] U _;refine aX func291 ntmps291 results291 λQ aB al az=>?_;have w1:IntKind.i64.wrap (h.r.tag+1)=h.r.tag+1:=wrap64 aa aa;have w2:IntKind.i64.wrap (q.held+1)=q.held+1:=wrap64 aa aa;refine ag ?_;refineλb5 jO=>?_;refine ag ?_;have a5:=λo=>a.iE jO o;have f5:=λo=>(a5 o).bV hh;refine bq f5 w1 ?_;have a6:=λo=>(a5 o).xR hh λr=>{r with tag:=r.tag+1};generalize hZ:Hp.set (Hp.set U b5 _) (A.chan id no) _=yd;replace a6:=dT (a6 _) hZ;have oV:(n.cf id no λr=>{r with tag:=r.tag+1}).h? id no=some {h with r:={h.r with tag:=h.r.tag+1}}:=by simp[hh]
 cases na with
 |true=>
  refine aH (a6.bV oV) ?_;refine al aG ao ⟨by simp[up],?_⟩;exact a6.oL
 |false=>
  have tZ:(n.cf id no λr=>{r with tag:=r.tag+1}).q? nm=some q:=hq;refine bq (a6.th tZ) w2 ?_;have a7:=a6.Hk tZ (λq=>{q with held:=q.held+1}) rfl rfl;generalize vw:Hp.set yd (A.queue nm) _=pA;replace a7:=dT a7 vw;have x7:=a7.ei;simp only at x7;have C5:((n.cf id no λr=>{r with tag:=r.tag+1}).bF nm λq=>{q with held:=q.held+1}).h? id no=some {h with r:={h.r with tag:=h.r.tag+1}}:=by simp[hh]
  obtain⟨l,kk,fI,gX,iq⟩:=a7.un C5;refine bJ 12 ?_;refine bq (a7.bV C5) x7 ?_;refine⟨by(repeat(first|exact jA|(apply jz;(focus decide+kernel))|(refine lf rfl (aP (a7.bV C5)) ?_))),?_⟩;refine ag ?_;refine Bc (b:=A.un id no) (k:=h.r.tag+1) (l:=l) (c:=kk) A8 gX.uniq ?_ fI ?_ ?_
  ·exact au
  ·exact au
  refine ag ?_
  have hnk:∀e∈(h.un.map λe=>((e.1:Int),tQ (A.queue e.2.1) e.2.2)),e.1≠h.r.tag+1:=by intro e he;obtain⟨y,hy,rfl⟩:=List.mem_map.1 he;exact iL y hy
  obtain⟨d1,d2⟩:=D7 gX iq hnk (tQ (A.queue nm) m);have et:(((h.r.tag+1).toNat:Nat):Int)=h.r.tag+1:=aa
  have a8:=a7.Us C5 (λh=>{h with un:=h.un++[(h.r.tag.toNat,(nm,m))]}) rfl rfl (o:=aU aW (jk l (h.r.tag+1) (.agg #[pV (A.queue nm),iV m.seq,sV m.key,sV m.body,.bool m.again]) kk) (jB l (h.r.tag+1) kk))
   ⟨_,_,rfl,d1,d2.trans (by simp only[List.map_append,List.map_cons,List.map_nil,et];exact List.perm_append_comm (l₁:=[_]))⟩
  have f8:=a8.bV (h:={h with r:={h.r with tag:=h.r.tag+1},un:=h.un++[((h.r.tag+1).toNat,(nm,m))]}) (by rw[jN,C5];simp);have x8:=a8.ei;simp only at x8;refine⟨iP f8 x8,?_⟩;refine aH f8 ?_;refine al aG ao ⟨by simp[up],?_⟩
  have es:n.hand id no nm m false=((n.cf id no λr=>{r with tag:=r.tag+1}).bF nm λq=>{q with held:=q.held+1}).bA id no λh=>{h with un:=h.un++[(h.r.tag.toNat,(nm,m))]}:=by have e1:∀(n:N) (f:HN->HN) (g:QN->QN),(n.bF nm g).bA id no f=(n.bA id no f).bF nm g:=λ_ _ _=>rfl;rw[e1];unfold N.hand N.cf;rw[MU,if_neg Bool.false_ne_true]
  rw[es];exact a8.oL
end
section
variable {n:N}{no:Nat}{nm:List UInt8}{c:CN}{h:HN}{k:Int}{m:aQ}{na:Bool}
variable {id:Int}
def OU (hc:n.ar id=some c):∃c',(n.hand id no nm m na).ar id=some c'/\c'.r=c.r:=by
 unfold N.hand;split
 ·simp[hc]
 ·simp[hc]
def Qp (hh:n.h? id no=some h):∃h',(n.hand id no nm m na).h? id no=some h'/\h'.r={h.r with tag:=h.r.tag+1}:=by
 unfold N.hand;split
 ·simp[hh]
 ·simp[hh]
def Vo:(n.hand id no nm m na).x? k=n.x? k:=by unfold N.hand;split<;>rfl
end
section
variable {H:Hid}{n:N}{X:Ext}{U:Hp}{R:Hp}{no:Nat}{nm:List UInt8}{c:CN}{h:HN}{q:QN}{k:Int}{x:XN}{o:Obj}{E:Env prog}{e:Nat}{cl:Nat}{me:Nat}{m:aQ}{na:Bool}
variable {A:Lay}{id:Int}
def apv {fr:Nat}(a:aq A H n X U)(hx:n.x? k=some x)(hc:n.ar x.id=some c)(hh:n.h? x.id x.no=some h)(hq:n.q? x.q=some q)(b1:0<=h.r.tag/\h.r.tag<=1000000000000)(b2:0<=q.held/\q.held<=1000000)(iL:∀e∈h.un,(e.1:Int)≠h.r.tag+1)
 (gU:c.r.frame=(fr:Int)) (f1:9<=fr/\fr<=1000000) (eV:x.no<1000000) (fK:c.r.out.length<=100000000000000) (QH:m.body.length<=100000) (asb:m.key.length<=1000) (asr:x.tag.length<=1000):
 aw E 328 #[pV (A.chan x.id x.no),pV (A.cons k),m.v] U λe R=>e=.returned (.tuple #[])/\aq A H (n.take k m) X R:=by
 show aw E 328 #[pV (A.chan x.id x.no),pV (A.cons k),.agg #[iV m.seq,sV m.key,sV m.body,.bool m.again]] U _;refine aX func328 ntmps328 results328 λQ aB al az=>?_;obtain⟨tg,AX⟩:∃tg:Nat,h.r.tag=(tg:Int):=⟨h.r.tag.toNat,aa⟩;refine ag ?_;refineλb5 jO=>?_;refine ag ?_;have a5:=λo=>a.iE jO o;have x5:=λo=>(a5 o).ei;simp only at x5;have c5:=λo=>(a5 o).vm hx;refine bJ 12 ?_;refine bq c5 x5 ?_;refine aJ (QA (m:=m) (na:=x.fp) (a5 _) hh hq b1 b2 iL) ?_;rintro v R ⟨hv,a6⟩;have I0:h.r.tag+1=((tg+1:Nat):Int):=aa;obtain rfl:v=iV ((tg+1:Nat):Int):=by rw[<-I0];injection hv
 obtain⟨c6,im,sz⟩:=OU (n:=n) (no:=x.no) (nm:=x.q) (m:=m) (na:=x.fp) hc;obtain⟨h6,oV,eh6⟩:=Qp (n:=n) (nm:=x.q) (m:=m) (na:=x.fp) hh;have ue:(n.hand x.id x.no x.q m x.fp).x? k=some x:=by rw[Vo];exact hx
 have x6:=a6.ei;simp only at x6;refine⟨iP x6 (a6.vm ue),?_⟩;refine ag ?_;refine bJ 23 ?_;refine bR (a6.bV oV) (a6.vm ue) x6 ?_;refineλbn cE=>?_;have a7:=λo=>a6.fresh cE o;have x7:=λo=>(a7 o).ei;simp only at x7;have h7:=λo=>(a7 o).bV oV;have c7:=λo=>(a7 o).vm ue;refine⟨dL h7,?_⟩;refine ag ?_;refine aJ (pI (ch:=x.no) (cl:=60) (me:=60) (xs:=[.text x.tag,.ng (tg+1),.flag m.again,.text m.key]) (a7 _) im (.inr ⟨bn,rfl,aT⟩) ?_ ak aa an an ?_ (by rw[sz];omega)) ?_
 ·simp[kP];omega
 ·simp[bZ,dC,cB];omega
 rintro v τ8 ⟨hv,a8⟩
 cases hv
 have aK:(cg x.no 60 60 [.text x.tag,.ng (tg+1),.flag m.again,.text m.key]).length<=3000:=by rw[ID];simp[bZ,dC,cB];omega
 generalize hS:cg x.no 60 60 [.text x.tag,.ng (tg+1),.flag m.again,.text m.key]=S at a8 aK;have C6:((n.hand x.id x.no x.q m x.fp).send x.id S).h? x.id x.no=some h6:=by rw[pO];exact oV
 have yP:((n.hand x.id x.no x.q m x.fp).send x.id S).ar x.id=some {c6 with r:={c6.r with out:=c6.r.out++S,ib:=(n.hand x.id x.no x.q m x.fp).clock}}:=by rw[sw,if_pos rfl,im];rfl
 have hx8:((n.hand x.id x.no x.q m x.fp).send x.id S).x? k=some x:=by rw[Vp];exact ue
 have x8:=a8.ei;simp only at x8;have h8:=a8.bV C6;have Zw:=a8.vm hx8;have f8:=a8.eC yP;simp only[sz,gU]at f8;refine⟨dF h8 Zw x8,?_⟩;refine ag ?_;refine bJ 19 ?_;refine bR h8 x8 f8 ?_;refine bz (OX (ch:=x.no) (size:=fr) (body:=m.body) aa f1.1 f1.2 aa) ?_;refine⟨dL h8,?_⟩;refine ag ?_
 have aer:(lI x.no m.body fr).length<=1000000:=by unfold lI;have:=TF x.no (fr-8) aa m.body.length m.body (Nat.le_refl _);simp only[List.length_append,qy,cB];omega
 refine aJ (Mh (s:=lI x.no m.body fr) a8 yP (by simp only[List.length_append,sz];omega)) ?_;rintro v uW ⟨hv,a9⟩
 cases hv
 have x9:=a9.ei;simp only at x9;have Kc:(((n.hand x.id x.no x.q m x.fp).send x.id S).send x.id (lI x.no m.body fr)).h? x.id x.no=some h6:=by rw[pO];exact C6
 have CX:∃c9,(((n.hand x.id x.no x.q m x.fp).send x.id S).send x.id (lI x.no m.body fr)).ar x.id=some c9/\c9.r.frame=fr:=by rw[sw,if_pos rfl,yP];exact⟨_,rfl,by simp only;rw[sz];exact gU⟩
 obtain⟨c9,CX,IX⟩:=CX;have h9:=a9.bV Kc;have f9:=a9.eC CX;rw[IX]at f9;refine⟨dF h9 x9 f9,?_⟩;refine aB dB ao ⟨rfl,?_⟩
 have e:n.take k m=((n.hand x.id x.no x.q m x.fp).send x.id S).send x.id (lI x.no m.body fr):=by
  unfold N.take;rw[hx];have e1:n.tag x.id x.no=tg:=by unfold N.tag;rw[hh];simp[AX]
  have e2:(n.hand x.id x.no x.q m x.fp).frame x.id=fr:=by unfold N.frame;rw[im];simp[sz,gU]
  simp only[N.give,e1,e2,hS]
 rw[e];exact a9.oL
end
section
variable {H:Hid}{n:N}{X:Ext}{U:Hp}{R:Hp}{no:Nat}{nm:List UInt8}{c:CN}{h:HN}{q:QN}{k:Int}{x:XN}{b:Nat}{E:Env prog}{e:Nat}{m:aQ}
variable {A:Lay}{id:Int}
def H8 (n:N)(nm:List UInt8)(q:QN):Prop:=q.cons.length<=1000/\∀k∈q.cons,∃x h,n.x? k=some x/\x.q=nm/\n.h? x.id x.no=some h
def oI (A:Lay)(n:N)(k:Int):gP:=match n.x? k with
 |some x=>⟨A.cons k,A.chan x.id x.no,k,x.tag,x.fp,match n.h? x.id x.no with|some h=>h.r.free h.un.length|none=>false⟩
 |none=>⟨0,0,k,[],false,false⟩
def aaj:(oI A n k).may=n.may k:=by
 unfold oI N.may gP.may
 cases n.x? k with
 |none=>rfl
 |some x=>simp only[];cases n.h? x.id x.no<;>rfl
def aak:(oI A n k).no=k:=by unfold oI;cases n.x? k<;>rfl
def apH (cs:List Int)(last:Int):BF (cs.map (oI A n)) last=(((cs.filter n.may).find? λk=>decide (k>last)).or (cs.filter n.may).head?).map (oI A n):=by
 unfold BF
 have e1:(cs.map (oI A n)).filter gP.may=(cs.filter n.may).map (oI A n):=by rw[List.filter_map];congr 1;apply List.filter_congr;intro k _;exact aaj
 rw[e1,List.find?_map];have e2:((λx:gP=>decide (x.no>last))∘oI A n)=λk=>decide (k>last):=by funext k;simp[aak]
 rw[e2]
 cases(cs.filter n.may).find? λk=>decide (k>last)with
 |some k=>rfl
 |none=>cases cs.filter n.may<;>rfl
def apI (a:aq A H n X U)(hq:n.q? nm=some q)(T:H8 n nm q):
 aw E 89 #[pV (A.queue nm)] U λe R=>e=.returned (match n.uS q with|some k=>pV (A.cons k)|none=>.pointer none)/\R=U:=by
 have hv:=a.il hq
 have ev:(q.cons.map λk=>pV (A.cons k))=(q.cons.map (oI A n)).map λx=>pV x.cb:=by rw[List.map_map];apply List.map_congr_left;intro k hk;obtain⟨x,h,hx,_⟩:=T.2 k hk;simp[oI,hx]
 rw[ev]at hv;refine(apG (a.queue hq) hv (λy hy=>?_) (by simpa using T.1)).mono ?_
 ·obtain⟨k,hk,rfl⟩:=List.mem_map.1 hy;obtain⟨x,h,hx,zh,hh⟩:=T.2 k hk;obtain⟨l,c,h1,h2,h3⟩:=a.un hh;have hlen:l.length=h.un.length:=by have:=h3.length_eq;simpa using this
  refine⟨?_,A.conn x.id,A.un x.id x.no,A.co x.id x.no,c,x.no,h.r,l,?_,?_,?_⟩
  ·have:=a.cons hx;rw[zh]at this;simpa[oI,hx]using this
  ·simpa[oI,hx]using a.chan hh
  ·exact h1
  ·simp[oI,hx,hh,hlen]
 ·rintro e R ⟨rfl,rfl⟩;refine⟨?_,rfl⟩;rw[apH];unfold N.uS
  cases hz:((q.cons.filter n.may).find? λk=>decide (k>q.last)).or (q.cons.filter n.may).head? with
  |none=>rfl
  |some k=>
   have hk:k∈q.cons:=by
    cases hf:(q.cons.filter n.may).find? λk=>decide (k>q.last)with
    |some j=>rw[hf,Option.some_or]at hz;cases hz;exact(List.mem_filter.1 (List.mem_of_find?_eq_some hf)).1
    |none=>
     rw[hf,Option.none_or]at hz;obtain⟨l,hl⟩:=List.head?_eq_some_iff.1 hz;have:k∈q.cons.filter n.may:=by rw[hl];simp
     exact(List.mem_filter.1 this).1
   obtain⟨x,h,hx,_⟩:=T.2 k hk;simp[qQ,oI,hx]
def S9 {ms:List aQ}(a:aq A H n X U)(hq:n.q? nm=some q)(hr:q.ready=m::ms)(hn:ms.length<=1000):
 aw E 90 #[pV (A.queue nm)] U λe R=>e=.returned (.tuple #[m.v,.bool true])/\At A (n.bF nm λq=>{q with ready:=q.ready.tail}) X R:=by
 refine(ajN (a.queue hq) (by rw[<-hr];exact a.eQ hq) hn).mono ?_;rintro e R ⟨rfl,iU,hm,hle,b,off,Tr,n1,n1',c1,vj,e1,e2⟩;refine⟨rfl,H.jC nm iU,?_⟩;have:=a.ah1 hq (rv:=iU) (λq=>{q with ready:=q.ready.tail}) rfl (by rw[e1];rfl) (by rw[e2];rfl) (by simp only;rw[hr];exact hm) (by rw[e1,e2];rfl);exact this.le hle
end
def ajc{U:Hp}{h:Nat}{Q:FuncId×Value->Hp->Prop}{H:Halt->Hp->Prop}:wpS prog (method (prog.types.size+Made.depth) 185 (pV h) "Take") Q H U=Q (328,pV h) U:=ah
section
variable {H:Hid}{H':Hid}{n:N}{X:Ext}{U:Hp}{R:Hp}{no:Nat}{nm:List UInt8}{c:CN}{h:HN}{q:QN}{k:Int}{x:XN}{o:Obj}{b:Nat}{E:Env prog}{e:Nat}{m:aQ}{na:Bool}
variable {A:Lay}{id:Int}
def VN (n:N)(k:Int)(m:aQ):Prop:=∃(x:XN) (c:CN) (h:HN) (q:QN) (fr:Nat),n.x? k=some x/\n.ar x.id=some c/\n.h? x.id x.no=some h/\n.q? x.q=some q/\(0<=h.r.tag/\h.r.tag<=1000000000000)/\(0<=q.held/\q.held<=1000000)/\(∀e∈h.un,(e.1:Int)≠h.r.tag+1)/\
 c.r.frame=(fr:Int)/\(9<=fr/\fr<=1000000)/\x.no<1000000/\c.r.out.length<=100000000000000/\m.body.length<=100000/\m.key.length<=1000/\x.tag.length<=1000
structure Ig (n:N):Prop where
 jq:dP cN (n.aL.map (·.1))
 len:n.aL.length<=12
 uS:∀nm q,n.q? nm=some q->H8 n nm q/\q.ready.length<=1000
 take:∀nm q m ms k,n.q? nm=some q->q.ready=m::ms->n.uS q=some k->VN (n.bF nm λq=>{q with ready:=q.ready.tail,last:=k}) k m
def TP {f:QN->QN}:(n.bF nm f).aL.map (·.1)=n.aL.map (·.1):=oE n.aL nm f λx=>x
def amz {na:Bool}:(n.hand id no nm m na).aL.map (·.1)=n.aL.map (·.1):=by
 unfold N.hand;split
 ·rfl
 ·rw[TP];rfl
def amB:(n.take k m).aL.map (·.1)=n.aL.map (·.1):=by
 unfold N.take;split
 ·rfl
 ·exact amz
def amA {n':N}(h:n.gN nm=some n'):n'.aL.map (·.1)=n.aL.map (·.1):=by
 unfold N.gN at h;split at h
 ·cases h
 ·split at h
  ·cases h
  ·split at h
   ·cases h
   ·cases h;rw[amB,TP]
def aqH {j:Int}:(n.take k m).x? j=n.x? j:=by
 unfold N.take;split
 ·rfl
 ·simp only[N.give,Vp,Vo]
def anU {f:Nat}(h:n.gN nm=none):n.iX f nm=n:=by
 cases f with
 |zero=>rfl
 |succ f=>unfold N.iX;rw[h]
def anT (hq:n.q? nm=some q){ms:List aQ}(hr:q.ready=m::ms)(ht:n.uS q=some k):n.gN nm=some ((n.bF nm λq=>{q with ready:=q.ready.tail,last:=k}).take k m):=by unfold N.gN;simp only[hq,hr,ht]
def TM {na:Bool}{da:List UInt8}(h:n.q? da=some q):∃q',(n.hand id no nm m na).q? da=some q'/\q'.ready=q.ready:=by
 unfold N.hand;split
 ·exact⟨q,h,rfl⟩
 ·rw[uH];split
  ·exact⟨{q with held:=q.held+1},by rw[Ha,h];rfl,rfl⟩
  ·exact⟨q,h,rfl⟩
def amv (h:n.q? nm=some q):∃q',(n.take k m).q? nm=some q'/\q'.ready=q.ready:=by
 unfold N.take;split
 ·exact⟨q,h,rfl⟩
 ·exact TM h
def Um {J:N->Prop}(hJ:∀n,J n->Ig n)(jS:∀n nm n',J n->n.gN nm=some n'->J n')(a:aq A H n X U)(j:J n):
 aw E 54 #[pV A.br] U λe R=>e=.returned (.tuple #[])/\At A n.serve X R/\J n.serve:=by
 refine Zp func54 ntmps54 results54 rfl ak λQ aB al az=>?_;have S:=hJ n j;obtain⟨lq,kq,jh,gB,lM⟩:=a.mq;have Rm:lq.length=n.aL.length:=by have:=lM.length_eq;simpa using this
 obtain⟨nf,y7⟩:∃nf:Nat->List UInt8,∀e∈n.aL,nf (A.queue e.1)=e.1:=by
  refine⟨λb=>((n.aL.find? λe=>decide (A.queue e.1=b)).map (·.1)).getD [],λe he=>?_⟩
  cases hf:n.aL.find? λe'=>decide (A.queue e'.1=A.queue e.1)with
  |none=>have:=List.find?_eq_none.1 hf e he;simp at this
  |some e'=>
   have h1:=List.find?_some hf;simp only[decide_eq_true_eq]at h1;have:=a.inj (.queue e'.1) (.queue e.1) (by have:=xB (List.mem_of_find?_eq_some hf);simpa[view]using this) (by have:=xB he;simpa[view]using this) (by simpa[cI]using h1);injection this with e1;simp only[hf];simpa using e1
 have sM:=lM.map (·.2);simp only[List.map_map]at sM;obtain⟨qs,za,mX⟩:=zt sM (xs:=n.aL.map λe=>A.queue e.1) (f:=dX) (by simp[List.map_map,Function.comp_def,dX])
 have Kq:qj U nf qs:=by intro b hb;obtain⟨e,he,rfl⟩:=List.mem_map.1 (za.mem_iff.1 hb);obtain⟨q,hq⟩:=Option.isSome_iff_exists.1 (xB he);exact⟨_,a.th hq,by simp[y7 e he]⟩
 refine ag ?_;refine aJ (UE a.tE rfl jh gB.old gB.nd (by rw[Rm];exact S.len) (by simpa[Function.comp_def]using mX) Kq) ?_;rintro v R ⟨hle,v',ys,hv,p1,p2,p3,p4⟩
 cases hv
 have vO:ys=n.aL.map λe=>A.queue e.1:=by
  have e1:ys.map nf=n.aL.map (·.1):=by
   refine zG vW Iu (((p1.trans za).map nf).trans ?_) ?_ S.jq
   ·rw[List.map_map];have:(n.aL.map (nf∘λe=>A.queue e.1))=n.aL.map (·.1):=List.map_congr_left λe he=>y7 e he;rw[this]
   ·rw[dP,List.pairwise_map];exact p2
  have e2:ys.map (λb=>A.queue (nf b))=ys:=by
   conv=>rhs;rw[<-List.map_id ys]
   apply List.map_congr_left;intro b hb;obtain⟨e,he,rfl⟩:=List.mem_map.1 ((p1.trans za).mem_iff.1 hb);simp[y7 e he]
  rw[<-e2];have:=congrArg (List.map A.queue) e1;simpa[List.map_map,Function.comp_def]using this
 subst vO;obtain⟨X',a1,qU⟩:=a.zZ hle p3 p4;obtain⟨base,cap,rfl,_⟩:=p3.read;have hl:(n.aL.map λe=>A.queue e.1).length=n.aL.length:=ak;refine aH hl ?_;refine cZ (λm I ds ae=>ds=[]/\I 8=.slice base n.aL.length cap/\I 9=iV n.aL.length/\∃(j:Nat) (H':Hid) (n1:N),j+m=n.aL.length/\I 10=iV j/\aq A H' n1 X' ae/\J n1/\n1.aL.map (·.1)=n.aL.map (·.1)/\n1=((n.aL.map (·.1)).take j).foldl (λn nm=>n.iX (n.ready nm) nm) n) n.aL.length ?_ ?_
 ·refine⟨rfl,?_,?_,0,H,n,ak,?_,a1,j,rfl,rfl⟩<;>exact aP hl
 rintro m I ds dg Y ⟨rfl,h8,h9,i,H1,n1,xm,bE,a1,j1,jR,xp⟩ hY
 cases m with
 |zero=>
  have c0:¬(i:Int)<n.aL.length:=aa;have xj:i=n.aL.length:=aa;simp only[go_sem,seval,h9,bE,c0,decide_false];have e:n1=n.serve:=by rw[xp,xj,List.take_of_length_le ak];rfl
  exact aB dB ao ⟨rfl,⟨H1,by rw[<-e];exact(qU a1).1⟩,by rw[<-e];exact j1⟩
 |succ m=>
  have hi:i<n.aL.length:=aa;have c0:(i:Int)<n.aL.length:=aa;have S1:=hJ n1 j1;obtain⟨_,sj⟩:=qU a1;obtain⟨b2,yA,e2,r2⟩:=sj.read;simp only[Value.slice.injEq]at e2;obtain⟨rfl,_,_⟩:=e2;obtain⟨ba,L,rfl,gT,hL⟩:=r2 i (aV hi);simp only[List.getElem_map,dX]at hL;obtain⟨nm,jx⟩:∃nm,nm=n.aL[i].1:=⟨_,rfl⟩;rw[<-jx]at hL
  have Ky:∀n2:N,n2.aL.map (·.1)=n.aL.map (·.1)->(n2.q? nm).isSome:=by
   intro n2 h2;have:nm∈n2.aL.map (·.1):=by rw[h2,jx];exact List.mem_map_of_mem (List.getElem_mem hi)
   obtain⟨e,he,h3⟩:=List.mem_map.1 this;rw[<-h3];exact xB he
  have w1:IntKind.i64.wrap ((i:Int)+1)=((i+1:Nat):Int):=by have:=S.len;rw[wrap64 aa aa];rfl
  simp only[go_sem,seval,h8,h9,bE,c0,decide_true];refine⟨aa,?_⟩;refine bq gT hL ?_;refine cZ (λm' I ds fZ=>ds=[]/\I 3=pV (A.queue nm)/\I 8=.slice (some ⟨ba,0,none⟩) n.aL.length cap/\I 9=iV n.aL.length/\I 10=iV i/\∃(H':Hid) (n2:N),aq A H' n2 X' fZ/\J n2/\n2.aL.map (·.1)=n.aL.map (·.1)/\n2.ready nm=m'/\n2.iX (n2.ready nm) nm=n1.iX (n1.ready nm) nm) (n1.ready nm) ?_ ?_
  ·refine⟨rfl,?_,?_,?_,?_,H1,n1,a1,j1,jR,rfl,rfl⟩<;>exact nH h8 h9 bE
  rintro m' I ds ja Y2 ⟨rfl,h3,h8,h9,bE,H2,n2,a2,j2,gW,bX,iy⟩ JH;have S2:=hJ n2 j2;obtain⟨q,hq⟩:=Option.isSome_iff_exists.1 (Ky n2 gW);obtain⟨T2,Du⟩:=S2.uS nm q hq;have hrq:n2.ready nm=q.ready.length:=by unfold N.ready;rw[hq];rfl
  obtain⟨rb,rc,gZ⟩:=(a2.eQ hq).shape;have mj:=a2.th hq;rw[gZ]at mj
  have step:∀n3:N,n3=n1.iX (n1.ready nm) nm->n3=((n.aL.map (·.1)).take (i+1)).foldl (λn nm=>n.iX (n.ready nm) nm) n:=by intro n3 h;rw[List.take_succ_eq_append_getElem (aV hi),List.foldl_append,<-xp];simp only[List.getElem_map,List.foldl_cons,List.foldl_nil];rw[<-jx];exact h
  have out:n2.gN nm=none->n2=n1.iX (n1.ready nm) nm:=λh=>by rw[<-iy,anU h]
  cases gq:q.ready with
  |nil=>
   have lL:¬((([]:List aQ).length:Nat):Int)>0:=an;rw[gq]at mj;have asd:¬((0:Nat):Int)>0:=an;have e1:n2.gN nm=none:=by unfold N.gN;simp only[hq,gq]
   simp only[go_sem,seval,h3,bE,mj,List.length_nil,decide_false,w1];refine hY m _ _ _ _ aa ⟨rfl,?_,?_,i+1,H2,n2,aa,?_,a2,j2,gW,step n2 (out e1)⟩ ao
   ·exact aP h8
   ·exact aP h9
   ·exact au
  |cons mm ms=>
   have lL:((q.ready.length:Nat):Int)>0:=by rw[gq];simp
   simp only[go_sem,seval,h3,mj,lL,decide_true];refine aJ (apI a2 hq T2) ?_;rintro v dv ⟨hv,rfl⟩
   cases ht:n2.uS q with
   |none=>
    rw[ht]at hv
    cases hv
    have e1:n2.gN nm=none:=by unfold N.gN;simp only[hq,gq,ht]
    refine bq bE w1 ?_;refine hY m _ _ _ _ aa ⟨rfl,?_,?_,i+1,H2,n2,aa,?_,a2,j2,gW,step n2 (out e1)⟩ ao
    ·exact aP h8
    ·exact aP h9
    ·exact au
   |some k=>
    rw[ht]at hv
    cases hv
    obtain⟨x,c,h,q',fr,hx,hc,hh,bu,t1,t2,t3,t4,t5,t6,t7,t8,t9,t10⟩:=S2.take nm q mm ms k hq gq ht;have sO:n2.x? k=some x:=hx;have a3:=a2.Hk hq (λq=>{q with last:=k}) rfl rfl;rw[gZ]at a3;refine bR h3 (a2.vm sO) mj ?_;generalize hZ:Hp.set dv (A.queue nm) _=uW;replace a3:=dT a3 hZ;have lM:(n2.bF nm λq=>{q with last:=k}).q? nm=some {q with last:=k}:=by rw[uH,if_pos rfl,hq];rfl
    have tU:ms.length<=1000:=by have:=congrArg List.length gq;simp only[List.length_cons]at this;omega
    refine aJ (S9 a3 lM gq tU) ?_;rintro v gH ⟨hv,H4,a4⟩;obtain rfl:v=.tuple #[.agg #[iV mm.seq,sV mm.key,sV mm.body,.bool mm.again],.bool true]:=by injection hv
    rw[EM]at a4;simp only[go_sem,seval];refineλb5 jO=>?_;simp only[go_sem,seval];rw[Hp.set_set];have a5:=λo=>a4.iE jO o;have x5:=λo=>(a5 o).ei;simp only at x5;have RR:(n2.bF nm λq=>{q with ready:=q.ready.tail,last:=k}).x? k=some x:=hx;have c5:=λo=>(a5 o).vm RR;refine bJ 7 ?_;refine bq c5 x5 ?_;refine jy (t:=185) (v:=pV (A.chan x.id x.no)) (recv:=pV (A.chan x.id x.no)) (f:=328) (name:= "Take") ?_ (λQ H h=>by rw[ajc];exact h) ?_
    ·exact au
    refine ag ?_;refine aJ (apv (m:=mm) (a5 _) hx hc hh bu t1 t2 t3 t4 t5 t6 t7 t8 t9 t10) ?_;rintro v yd ⟨hv,a6⟩
    cases hv
    have hs:=anT hq gq ht;have j5:=jS n2 nm _ j2 hs;have hk5:=(amA hs).trans gW;obtain⟨q5,vH,er5⟩:=amv (k:=k) (m:=mm) (n:=n2.bF nm λq=>{q with ready:=q.ready.tail,last:=k}) (q:={q with ready:=q.ready.tail,last:=k}) (nm:=nm) (by rw[uH,if_pos rfl,hq];rfl);have Gt:N.ready ((n2.bF nm λq=>{q with ready:=q.ready.tail,last:=k}).take k mm) nm=ms.length:=by unfold N.ready;rw[vH];simp[er5,gq]
    have AW:n2.ready nm=ms.length+1:=by rw[hrq,gq];rfl
    have ue:((n2.bF nm λq=>{q with ready:=q.ready.tail,last:=k}).take k mm).x? k=some x:=by rw[aqH];exact RR
    have x6:=a6.ei;simp only at x6;refine⟨iP x6 (a6.vm ue),?_⟩;refine ag ?_;refine JH ms.length _ _ _ _ aa ⟨rfl,?_,?_,?_,?_,_,_,a6.oL,j5,hk5,Gt,?_⟩ ao
    ·exact aP h3
    ·exact aP h8
    ·exact aP h9
    ·exact aP bE
    ·rw[Gt,<-iy,AW];show _=N.iX (ms.length+1) n2 nm
     conv=>rhs;unfold N.iX
     rw[hs]
end
end Go.Qw
