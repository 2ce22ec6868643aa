/- Part 26. -/
import Derived.Test.YtpiabknabfbfhaaGreatDoorFairly25
set_option linter.all false
set_option maxRecDepth 100000
set_option maxHeartbeats 8000000
namespace Go.Qw
open Go Go.Conc Go.Proofs Go.Proofs.Tryz
section
variable {A':Lay}{H:Hid}{H':Hid}{n:N}{X:Ext}{σ:Hp}{no:Nat}{c:CN}{h:HN}{o:Obj}{b:Nat}
variable {A:Lay}{id:Int}
def mi (id:Int)(p:Nat->Bool):Ref->Bool
 | .chan i j| .un i j| .co i j=>decide (i=id)&&p j
 |_=>false
def Hl.forget {w:Ref->Option V}{ad:Ref->Nat}(h:Hl w ad σ)(f:Ref->Bool):Hl (λr=>if f r then none else w r) ad σ:=
 h.sub λr=>by cases h:f r<;>simp[h]
def aq.aaM (a:aq A H n X σ)(hc:n.ar id=some c)(hb:σ.f b=none)(f:CN->CN)(hf:(f c).ch=[]):
 aq A (H.uC id b) (n.dI id f) X ((σ.set b (aU aV [] 0)).set (A.conn id) (fi A.gw id b (f c).r)):=by
 have h0:=Hl.forget a (mi id λ_=>true);have h1:=Hl.put h0 (r:=.chm id) (b:=b) (v:=.oU []) (Hl.tk h0 _ hb) ⟨[],0,rfl,⟨by simp[jD],al,al⟩,al⟩;have h2:=Hl.uE h1 (r:=.conn id) (by simp[upd,view,hc,mi]) (fi A.gw id b (f c).r);have e2:upd (cD A H X) (.chm id) b (.conn id)=A.conn id:=by simp[upd,cD]
 rw[e2]at h2
 have hh:∀i j,(n.dI id f).h? i j=if i=id then none else n.h? i j:=λi j=>by
  unfold N.h?;rw[qg];by_cases e:i=id
  ·subst e;simp[hc,hf,bu]
  ·simp[e]
 refine Hl.congr h2 (λr=>?_) (λr hr=>?_)
 ·cases r
  case conn i=>by_cases e:i=id<;>simp[view,upd,e,hc,mi,Hid.uC]
  case chm i=>by_cases e:i=id<;>simp[view,upd,e,hc,mi,hf]
  case chan i j=>by_cases e:i=id<;>simp[view,upd,e,hh,mi]
  case un i j=>by_cases e:i=id<;>simp[view,upd,e,hh,mi]
  case co i j=>by_cases e:i=id<;>simp[view,upd,e,hh,mi]
  case mc=>simp only[view,upd,N.dI,mi,reduceCtorEq,if_false];rw[ow _ _ _ λi=>(i,pV (A.conn i))]
  all_goals simp[view,upd,mi]<;>rfl
 ·cases r
  case chm i=>by_cases e:i=id<;>simp[cD,upd,e,Hid.uC]
  all_goals simp[cD,upd]<;>rfl
def aq.aar (a:aq A H n X σ)(hc:n.ar id=some c)(no:Nat)(ho:oo (.oU ((cF c.ch no).map λe=>((e.1:Int),pV (A.chan id e.1)))) o):
 aq A H (n.dI id λc=>{c with ch:=cF c.ch no}) X (σ.set (H.chm id) o):=by
 have h0:=Hl.forget a (mi id λj=>decide (j=no));have h1:=Hl.set h0 (r:=.chm id) (by simp[view,hc,mi]) ho
 have hh:∀i j,(n.dI id λc=>{c with ch:=cF c.ch no}).h? i j=if i=id/\j=no then none else n.h? i j:=λi j=>by
  unfold N.h?;rw[qg];by_cases e:i=id
  ·subst e;simp[hc,BZ]
  ·simp[e]
 refine Hl.congr h1 (λr=>?_) (λr hr=>rfl)
 cases r
 case conn i=>by_cases e:i=id<;>simp[view,upd,e,hc,mi]
 case chm i=>by_cases e:i=id<;>simp[view,upd,e,hc,mi]
 case chan i j=>by_cases e:i=id<;>by_cases e2:j=no<;>simp[view,upd,e,e2,hh,mi]
 case un i j=>by_cases e:i=id<;>by_cases e2:j=no<;>simp[view,upd,e,e2,hh,mi]
 case co i j=>by_cases e:i=id<;>by_cases e2:j=no<;>simp[view,upd,e,e2,hh,mi]
 case mc=>simp only[view,upd,N.dI,mi,reduceCtorEq,if_false];rw[ow _ _ _ λi=>(i,pV (A.conn i))]
 all_goals simp[view,upd,mi]<;>rfl
def Lay.setChan (A:Lay)(id:Int)(no:Nat)(hb ub cb:Nat):Lay:={A with
 chan:=λi j=>if i=id/\j=no then hb else A.chan i j
 un:=λi j=>if i=id/\j=no then ub else A.un i j
 co:=λi j=>if i=id/\j=no then cb else A.co i j}
def aq.ajs (a:aq A H n X σ)(w:Wf n)(hc:n.ar id=some c)(hn:bu c.ch no=none){hb ub cb:Nat}(h1:σ.f ub=none)(h2:σ.f cb=none)(h3:σ.f hb=none)(n1:cb≠ub)(n2:hb≠ub)(n3:hb≠cb)
 (ho:oo (.oU ((cV kT c.ch no ⟨gu,[],[]⟩).map λe=>((e.1:Int),pV ((A.setChan id no hb ub cb).chan id e.1)))) o):
 aq (A.setChan id no hb ub cb) H (n.dI id λc=>{c with ch:=cV kT c.ch no ⟨gu,[],[]⟩}) X
  ((((σ.set ub (aU aV [] 0)).set cb (aU bR [] 0)).set hb (iu (A.conn id) no ub cb gu)).set (H.chm id) o):=by
 have tL:n.h? id no=none:=by simp[N.h?,hc,hn]
 have h0:=a.He w (A':=A.setChan id no hb ub cb) (H':=H) ⟨rfl,rfl,rfl,rfl,rfl,λ_ _=>⟨rfl,rfl⟩,λi j hj=>by
  have:¬(i=id/\j=no):=λe=>by rw[e.1,e.2,tL]at hj;cases hj
  simp[Lay.setChan,this],λ_ _=>⟨rfl,rfl,rfl⟩,λ_ _=>rfl⟩
 have g1:=Hl.put h0 (r:=.un id no) (b:=ub) (v:=.oU []) (Hl.tk h0 _ h1) ⟨[],0,rfl,⟨by simp[jD],al,al⟩,al⟩;have g2:=Hl.put g1 (r:=.co id no) (b:=cb) (v:=.xC []) (Hl.tk g1 _ (by rw[Hp.az n1];exact h2)) ⟨[],0,rfl,⟨by simp[jD],al,al⟩,al⟩;have g3:=Hl.put g2 (r:=.chan id no) (b:=hb) (v:=.obj (iu (A.conn id) no ub cb gu)) (Hl.tk g2 _ (by rw[Hp.az n3,Hp.az n2];exact h3)) (_root_.id rfl);have g4:=Hl.set g3 (r:=.chm id) (by simp[upd,view,hc]) ho;have e4:upd (upd (upd (cD (A.setChan id no hb ub cb) H X) (.un id no) ub) (.co id no) cb) (.chan id no) hb (.chm id)=H.chm id:=by simp[upd,cD]
 rw[e4]at g4
 have hh:∀i j,(n.dI id λc=>{c with ch:=cV kT c.ch no ⟨gu,[],[]⟩}).h? i j=if i=id/\j=no then some ⟨gu,[],[]⟩else n.h? i j:=λi j=>by
  unfold N.h?;rw[qg];by_cases e:i=id
  ·subst e;simp[hc,yn _ _ _ _ hn]
  ·simp[e]
 refine Hl.congr g4 (λr=>?_) (λr hr=>?_)
 ·cases r
  case conn i=>by_cases e:i=id<;>simp[view,upd,e,hc]<;>rfl
  case chm i=>by_cases e:i=id<;>simp[view,upd,e,hc]
  case chan i j=>by_cases e:i=id/\j=no<;>simp[view,upd,e,hh]<;>simp[Lay.setChan]
  case un i j=>by_cases e:i=id/\j=no<;>simp[view,upd,e,hh]
  case co i j=>by_cases e:i=id/\j=no<;>simp[view,upd,e,hh]
  case mc=>simp only[view,upd,N.dI,reduceCtorEq,if_false];rw[ow _ _ _ λi=>(i,pV ((A.setChan id no hb ub cb).conn i))]
  all_goals simp[view,upd]<;>rfl
 ·cases r
  case chan i j=>by_cases e:i=id/\j=no<;>simp[cD,upd,e,Lay.setChan]
  case un i j=>by_cases e:i=id/\j=no<;>simp[cD,upd,e,Lay.setChan]
  case co i j=>by_cases e:i=id/\j=no<;>simp[cD,upd,e,Lay.setChan]
  all_goals simp[cD,upd]<;>rfl
def Lay.qQ (A:Lay)(id:Int)(b:Nat):Lay:={A with conn:=λi=>if i=id then b else A.conn i}
def aq.ajt (a:aq A H n X σ)(w:Wf n)(hn:n.ar id=none){m:Nat}(h1:σ.f m=none)(h2:σ.f b=none)(n1:b≠m)(r0:CR)(ho:oo (.oU ((n.aF++[(id,(⟨r0,[]⟩:CN))]).map λe=>(e.1,pV ((A.qQ id b).conn e.1)))) o):
 aq (A.qQ id b) (H.uC id m) {n with aF:=n.aF++[(id,⟨r0,[]⟩)]} X (((σ.set m (aU aV [] 0)).set b (fi A.gw id m r0)).set A.mc o):=by
 have h0:=a.He w (A':=A.qQ id b) (H':=H.uC id m) ⟨rfl,rfl,rfl,rfl,rfl,λi hi=>by simp[Lay.qQ,Hid.uC,Ml (f:=n.ar) hn hi],λ_ _ _=>⟨rfl,rfl,rfl⟩,λ_ _=>⟨rfl,rfl,rfl⟩,λ_ _=>rfl⟩;have g1:=Hl.put h0 (r:=.chm id) (b:=m) (v:=.oU []) (Hl.tk h0 _ h1) ⟨[],0,rfl,⟨by simp[jD],al,al⟩,al⟩;have g2:=Hl.put g1 (r:=.conn id) (b:=b) (v:=.obj (fi A.gw id m r0)) (Hl.tk g1 _ (by rw[Hp.az n1];exact h2)) (_root_.id rfl);have g3:=Hl.set g2 (r:=.mc) (by simp[upd,view]) ho;have e3:upd (upd (cD (A.qQ id b) (H.uC id m) X) (.chm id) m) (.conn id) b .mc=A.mc:=by simp[upd,cD,Lay.qQ]
 rw[e3]at g3
 have cP:∀i,N.ar {n with aF:=n.aF++[(id,⟨r0,[]⟩)]} i=if i=id then some ⟨r0,[]⟩else n.ar i:=by
  intro i;unfold N.ar bu;simp only[List.find?_append,List.find?_cons,List.find?_nil];by_cases e:i=id
  ·subst e;have:(n.aF.find? λe=>decide (e.1=i))=none:=by unfold N.ar bu at hn;simpa using hn
   simp[this]
  ·have e2:¬id=i:=λz=>e z.symm;simp[e2,e]
 have hh:∀i j,N.h? {n with aF:=n.aF++[(id,⟨r0,[]⟩)]} i j=n.h? i j:=λi j=>by
  unfold N.h?;rw[cP];by_cases e:i=id
  ·subst e;simp[hn,bu]
  ·simp[e]
 refine Hl.congr g3 (λr=>?_) (λr hr=>?_)
 ·cases r
  case conn i=>by_cases e:i=id<;>simp[view,upd,e,cP]<;>simp[Lay.qQ,Hid.uC]
  case chm i=>by_cases e:i=id<;>simp[view,upd,e,cP]
  case chan i j=>simp[view,upd,hh]
  case un i j=>simp[view,upd,hh]
  case co i j=>simp[view,upd,hh]
  all_goals simp[view,upd]<;>rfl
 ·cases r
  case conn i=>by_cases e:i=id<;>simp[cD,upd,e,Lay.qQ]
  case chm i=>by_cases e:i=id<;>simp[cD,upd,e,Hid.uC]
  all_goals simp[cD,upd]<;>rfl
def aq.OY (a:aq A H n X σ)(id:Int)(ho:oo (.oU ((cF n.aF id).map λe=>(e.1,pV (A.conn e.1)))) o):
 aq A H {n with aF:=cF n.aF id} X (σ.set A.mc o):=by
 have h1:=Hl.set a (r:=.mc) (by simp[view]) ho;refine Hl.sub h1 (λr=>?_);have cP:∀i,N.ar {n with aF:=cF n.aF id} i=if i=id then none else n.ar i:=λi=>BZ _ _ _
 have hh:∀i j,N.h? {n with aF:=cF n.aF id} i j=if i=id then none else n.h? i j:=λi j=>by unfold N.h?;rw[cP];split<;>rfl
 cases r
 case conn i=>by_cases e:i=id<;>simp[view,upd,e,cP]
 case chm i=>by_cases e:i=id<;>simp[view,upd,e,cP]
 case chan i j=>by_cases e:i=id<;>simp[view,upd,e,hh]
 case un i j=>by_cases e:i=id<;>simp[view,upd,e,hh]
 case co i j=>by_cases e:i=id<;>simp[view,upd,e,hh]
 case mc=>exact .inr (by simp[view,upd])
 all_goals exact .inr (by simp[view,upd]<;>rfl)
end
section
variable {n:N}{no:Nat}{c:CN}{h:HN}{k:Int}{b:Nat}{aJ:Int}{dw:Nat}
variable {id:Int}
def N.rC (n:N)(id:Int):Option CR:=(n.ar id).map λc=>c.r
def N.rH (n:N)(id:Int)(no:Nat):Option HR:=(n.h? id no).map λh=>h.r
def qM {f:HN->HN}:(n.bB id no f).rC aJ=n.rC aJ:=by
 unfold N.rC;rw[vc];split
 ·cases n.ar aJ<;>rfl
 ·rfl
def TS {f:HN->HN}(hf:∀h,(f h).r=h.r):(n.bB id no f).rH aJ dw=n.rH aJ dw:=by
 unfold N.rH;rw[jI];split
 ·cases n.h? aJ dw<;>simp[hf]
 ·rfl
def TN {tag:Nat}{b:Bool}:(n.settle id no tag b).rC aJ=n.rC aJ:=by unfold N.settle;split<;>first|rfl|exact qM
def amu {tag:Nat}{b:Bool}:(n.settle id no tag b).rH aJ dw=n.rH aJ dw:=by unfold N.settle;split<;>first|rfl|exact TS λ_=>rfl
def amq {k:Int}:(n.cancel k).rC aJ=n.rC aJ:=by unfold N.rC;rw[OM]
def ams {l:List (Nat×(List UInt8×aX))}:(n.kE id no l).rC aJ=n.rC aJ:=by
 unfold N.kE
 induction l generalizing n with
 |nil=>rfl
 |cons e l ih=>rw[List.foldl_cons,ih];exact TN
def amv {l:List (Nat×(List UInt8×aX))}:(n.kE id no l).rH aJ dw=n.rH aJ dw:=by
 unfold N.kE
 induction l generalizing n with
 |nil=>rfl
 |cons e l ih=>rw[List.foldl_cons,ih];exact amu
def Br (hh:n.h? id no=some h):n.release id no=((n.jE h.co).bB id no λh=>{h with co:=[]}).kE id no h.un:=by unfold N.release;rw[hh];rfl
def Bp:(n.release id no).rC aJ=n.rC aJ:=by
 cases hh:n.h? id no with
 |none=>unfold N.release;rw[hh]
 |some h=>rw[Br hh,ams,qM];unfold N.rC;rw[ON]
def TQ:(n.release id no).rH aJ dw=n.rH aJ dw:=by
 cases hh:n.h? id no with
 |none=>unfold N.release;rw[hh]
 |some h=>rw[Br hh,amv];refine(TS (f:=λh=>{h with co:=[]}) λ_=>rfl).trans ?_;unfold N.rH;rw[FJ]
def N.gJ (n:N)(id:Int)(l:List (Nat×HN)):N:=l.foldl (λn e=>n.release id e.1) n
def Ek {l:List (Nat×HN)}:(n.gJ id l).rC aJ=n.rC aJ:=by
 unfold N.gJ
 induction l generalizing n with
 |nil=>rfl
 |cons e l ih=>rw[List.foldl_cons,ih];exact Bp
def am2 {l:List (Nat×HN)}{j:Nat}(hj:j<l.length):n.gJ id (l.take (j+1))=(n.gJ id (l.take j)).release id l[j].1:=by unfold N.gJ;rw[List.take_succ_eq_append_getElem hj,List.foldl_append];rfl
def Bq {r:CR}(h:n.rC id=some r):∃c,n.ar id=some c/\c.r=r:=by unfold N.rC at h;obtain⟨c,h1,h2⟩:=Option.map_eq_some_iff.1 h;exact⟨c,h1,h2⟩
def TR {r:HR}(h:n.rH id no=some r):∃c,n.h? id no=some c/\c.r=r:=by unfold N.rH at h;obtain⟨c,h1,h2⟩:=Option.map_eq_some_iff.1 h;exact⟨c,h1,h2⟩
def Bo (h:n.ar id=some c):n.rC id=some c.r:=by simp[N.rC,h]
def TP (hh:n.h? id no=some h):n.rH id no=some h.r:=by simp[N.rH,hh]
structure zT (n:N) (id:Int) (c:CN):Prop where
 jl:(c.ch.map (·.1)).Pairwise (·<·)
 len:c.ch.length<=12
 step:∀j,∃cj,(n.gJ id (c.ch.take j)).ar id=some cj/\cj.ch.map (·.1)=c.ch.map (·.1)
 rel:∀j (hj:j<c.ch.length),∃h,(n.gJ id (c.ch.take j)).h? id c.ch[j].1=some h/\yc (n.gJ id (c.ch.take j)) id c.ch[j].1 h
end
section
variable {H:Hid}{H':Hid}{n:N}{X:Ext}{σ:Hp}{τ:Hp}{c:CN}{h:HN}{k:Int}{o:Obj}{b:Nat}{E:Env prog}
variable {A:Lay}{id:Int}
def aq.mem (a:aq A H n X σ){p:Nat×Obj}(h:p∈X):σ.f p.1=some p.2:=by obtain⟨i,hi⟩:=List.getElem?_of_mem h;exact a.ext hi
def px (a:aq A H n X σ)(hc:n.ar id=some c){ch cl me:Nat}{xs:List Arg}{v:Value}(hv:zN σ xs v)(fV:∀a∈xs,kH a)(hn:xs.length<=1000)
 (dK:ch<9223372036854775808) (aM:cl<9223372036854775808) (aP:me<9223372036854775808) (fM:(cW xs).length<=10000000) (fN:c.r.out.length<=1000000000000000):
 ay E 105 #[pV (A.conn id),iV ch,iV cl,iV me,v] σ λe τ=>e=.returned (.tuple #[])/\aq A H (n.send id (ck ch cl me xs)) X τ:=
 (Hc a.gw (a.conn hc) hv fV hn dK aM aP fM fN).mono λe τ ⟨h1,h2⟩=>⟨h1,by subst h2;exact a.nv hc λr=>{r with out:=r.out++ck ch cl me xs,gV:=n.clock}⟩
def Mb (a:aq A H n X σ)(hc:n.ar id=some c){s:List UInt8}(fN:c.r.out.length+s.length<=9223372036854775807):
 ay E 43 #[pV (A.conn id),sV s] σ λe τ=>e=.returned (.tuple #[])/\aq A H (n.send id s) X τ:=
 (Ue (a.eu hc) a.jH rfl rfl rfl rfl fN (λe=>by have:=a.gw;rw[e,a.conn hc]at this;simp[fi,eE,CR.vals]at this)).mono λe τ ⟨h1,h2⟩=>⟨h1,by subst h2;exact a.nv hc λr=>{r with out:=r.out++s,gV:=n.clock}⟩
def Ld (a:aq A H n X σ)(hc:n.ar id=some c)(R:zT n id c):
 ay E 53 #[pV (A.conn id)] σ λe τ=>e=.returned (.tuple #[])/\At A (n.leave id) X τ:=by
 refine aW func53 ntmps53 results53 λQ aC an aA=>?_;obtain⟨lc,kc,cB,dP,kL⟩:=a.chm hc;have AP:lc.length=c.ch.length:=by have:=kL.length_eq;simpa using this
 refine aG (a.eu hc) ?_;refine aL (aoi cB dP.old dP.nd (by have:=R.len;omega)) ?_;rintro v τ ⟨hle,v',ys,hv,p1,p2,p3,p4⟩
 cases hv
 obtain rfl:ys=c.ch.map λe=>((e.1:Nat):Int):=by
  refine zG A8 Fa (p1.trans ?_) (p2 (by have:=R.len;omega)) ?_
  ·have:=kL.map (·.1);simpa[List.map_map,Function.comp_def]using this
  ·have:=R.jl;rw[dM,List.pairwise_map];rw[List.pairwise_map]at this;exact this.imp λh=>by simp[jN];omega
 obtain⟨X',a1,qO⟩:=a.zY hle p3 p4;obtain⟨base,cap,rfl,_⟩:=p3.read;have hl:(c.ch.map λe=>((e.1:Nat):Int)).length=c.ch.length:=al;refine aG hl ?_;refine dh (λm ρ ds ae=>ds=[]/\ρ 0=pV (A.conn id)/\ρ 8=.slice base c.ch.length cap/\ρ 9=iV c.ch.length/\∃(j:Nat) (H':Hid),j+m=c.ch.length/\ρ 10=iV j/\aq A H' (n.gJ id (c.ch.take j)) X' ae) c.ch.length ?_ ?_
 ·refine⟨rfl,?_,?_,?_,0,H,al,?_,a1⟩<;>exact aK hl
 rintro m ρ ds cZ Y ⟨rfl,h0,h8,h9,j,H1,xi,bA,aj⟩ hY;obtain⟨cj,iN,hkj⟩:=R.step j
 cases m with
 |succ m=>
  have hj:j<c.ch.length:=aa;have c0:(j:Int)<c.ch.length:=aa;obtain⟨_,sj⟩:=qO aj;obtain⟨b2,yv,e2,r2⟩:=sj.read;simp only[Value.slice.injEq]at e2;obtain⟨rfl,_,_⟩:=e2;obtain⟨ba,L,rfl,gO,hL⟩:=r2 j (aZ hj);simp only[List.getElem_map,aV]at hL;have w1:IntKind.i64.wrap ((j:Int)+1)=((j+1:Nat):Int):=by have:=R.len;rw[wrap64 aa aa];rfl
  obtain⟨h,hh,Rh⟩:=R.rel j hj;obtain⟨lj,kj,mM,qC,xg⟩:=aj.chm iN
  have pJ:((c.ch[j].1:Int),pV (A.chan id c.ch[j].1))∈cj.ch.map λe=>((e.1:Int),pV (A.chan id e.1)):=by
   have:c.ch[j].1∈cj.ch.map (·.1):=by rw[hkj];exact List.mem_map_of_mem (List.getElem_mem hj)
   obtain⟨e,he,h2⟩:=List.mem_map.1 this;exact List.mem_map.2 ⟨e,he,by rw[h2]⟩
  obtain⟨st,bw⟩:=rE qC xg pJ;simp only[go_sem,seval,h8,h9,bA,c0,decide_true];refine⟨aa,?_⟩;refine fB gO hL h0 (aj.eu iN) ?_;refine jM (b:=H1.chm id) (k:=(c.ch[j].1:Int)) (l:=lj) (c:=kj) ue (z:=.pointer none) ah ?_ mM ?_ ?_
  ·exact au
  ·exact au
  have dk:((dn lj (c.ch[j].1:Int)).map (·.2.1)).getD (.pointer none)=pV (A.chan id c.ch[j].1):=by rw[bw];rfl
  rw[if_neg Bool.false_ne_true,dk];refine ag ?_;refine aL (L8 aj iN hh Rh) ?_;rintro v2 cM ⟨lH,H2,a2⟩
  cases lH
  refine bt bA w1 ?_;refine hY m _ _ _ _ aa ⟨rfl,?_,?_,?_,j+1,H2,aa,?_,by rw[am2 hj];exact a2⟩ ao
  ·exact aK h0
  ·exact aK h8
  ·exact aK h9
  ·exact au
 |zero=>
  have c0:¬(j:Int)<c.ch.length:=aa;have vv:j=c.ch.length:=aa;rw[vv,List.take_length]at aj iN;simp only[go_sem,seval,h0,h9,bA,c0,decide_false];refineλmb Rn=>?_;have a5:=λo=>aj.fresh Rn o;have f5:=λo=>(a5 o).eu iN;refine aG f5 ?_;refine aC du ao ⟨rfl,H1.uC id mb,?_⟩;have e:n.leave id=(n.gJ id c.ch).dI id λc=>{c with ch:=[]}:=by unfold N.leave;rw[hc];rfl
  rw[e];exact(qO aj).1.aaM iN Rn (λc=>{c with ch:=[]}) rfl
end
def dO{A:Lay}{H:Hid}{n:N}{X:Ext}{Z Z':Hp}(a:aq A H n X Z)(e:Z=Z'):aq A H n X Z':=e▸a
def tr(e cl me:Nat):Obj:=.cells [iV e,iV cl,iV me].toArray 217 (0,0)
def PD(e cl me:Nat):(cW (ql e cl me)).length=7:=by simp[cW,ep,ql,bV]
section
variable {H:Hid}{n:N}{X:Ext}{σ:Hp}{τ:Hp}{no:Nat}{c:CN}{h:HN}{k:Int}{o:Obj}{b:Nat}{E:Env prog}{e:Nat}{cl:Nat}{me:Nat}
variable {A:Lay}{id:Int}
def an7 (a:aq A H n X σ)(hb:(b,tr e cl me)∈X)(hc:n.ar id=some c)(hh:n.h? id no=some h)(R:yc n id no h)(dY:no<1000000)(he:e<1000000/\cl<1000000/\me<1000000)(fN:c.r.out.length<=100000000000000):
 ay E 151 #[pV (A.chan id no),pV b] σ λe' τ=>e'=.returned (.tuple #[])/\At A (n.soft id no e cl me) X τ:=by
 refine aW func151 ntmps151 results151 λQ aC an aA=>?_;refine ag ?_;refine aL (L8 a hc hh R) ?_;rintro v τ ⟨hv,H1,a1⟩
 cases hv
 obtain⟨c1,cB,ec⟩:=Bq (Bp.trans (Bo hc));obtain⟨h1,mL,eh⟩:=TR (TQ.trans (TP hh));refine aG (a1.bW mL) ?_;have a2:=a1.xP mL λr=>{r with closing:=true};generalize hZ:τ.set (A.chan id no) _=cM;replace a2:=dO a2 hZ;have eY:((n.release id no).cS id no λr=>{r with closing:=true}).h? id no=some {h1 with r:={h1.r with closing:=true}}:=by simp[mL]
 have dP:∃c2,((n.release id no).cS id no λr=>{r with closing:=true}).ar id=some c2/\c2.r=c.r:=by refine Bq (qM.trans ?_);rw[Bo cB,ec]
 obtain⟨c2,dP,ec2⟩:=dP;have fb:=a2.mem hb;simp only[tr]at fb;refine bG 26 ?_;refine bt (a2.bW eY) fb ?_;refineλbn cz=>?_;have a3:=λo=>a2.fresh cz o;have f3:=λo=>(a3 o).mem hb;simp only[tr]at f3;have g3:=λo=>(a3 o).bW eY;refine KU g3 ?_;refine ag ?_;refine aL (px (ch:=no) (cl:=20) (me:=40) (xs:=ql e cl me) (a3 _) dP (.inr ⟨bn,rfl,aY⟩) ?_ (by simp[ql]) aa ai ai (by rw[PD];decide) (by rw[ec2];omega)) ?_
 ·simp[ql,kH];omega
 rintro v fH ⟨hv,a4⟩
 cases hv
 have f4:=a4.mem hb;simp only[tr]at f4;have JZ:(((n.release id no).cS id no λr=>{r with closing:=true}).send id (ck no 20 40 (ql e cl me))).h? id no=some {h1 with r:={h1.r with closing:=true}}:=by rw[pE];exact eY
 have g4:=a4.bW JZ;refine Sg f4 g4 ?_;exact aC du ao ⟨rfl,H1,a4⟩
def Qu (a:aq A H n X σ)(hb:(b,tr e cl me)∈X)(hc:n.ar id=some c)(R:zT n id c)(he:e<1000000/\cl<1000000/\me<1000000)(fN:c.r.out.length<=100000000000000):
 ay E 106 #[pV (A.conn id),pV b] σ λe' τ=>e'=.returned (.tuple #[])/\At A (n.cH id e cl me) X τ:=by
 refine aW func106 ntmps106 results106 λQ aC an aA=>?_;refine ag ?_;refine aL (Ld a hc R) ?_;rintro v τ ⟨hv,H1,a1⟩
 cases hv
 have cB:∃c1,(n.leave id).ar id=some c1/\c1.r=c.r:=by
  have e:n.leave id=(n.gJ id c.ch).dI id λc=>{c with ch:=[]}:=by unfold N.leave;rw[hc];rfl
  obtain⟨c1,cB,ec⟩:=Bq (Ek.trans (Bo hc):(n.gJ id c.ch).rC id=some c.r);exact⟨{c1 with ch:=[]},by rw[e];simp[cB],ec⟩
 obtain⟨c1,cB,ec⟩:=cB;refine aG (a1.eu cB) ?_;have a2:=a1.nv cB λr=>{r with ph:=4};generalize hZ:τ.set (A.conn id) _=cM;replace a2:=dO a2 hZ;have dP:((n.leave id).bC id λr=>{r with ph:=4}).ar id=some {c1 with r:={c1.r with ph:=4}}:=by simp[cB]
 have fb:=a2.mem hb;simp only[tr]at fb;refine bG 19 ?_;refine aG fb ?_;refineλbn cz=>?_;have a3:=λo=>a2.fresh cz o;have f3:=λo=>(a3 o).mem hb;simp only[tr]at f3;refine⟨dG f3,?_⟩;refine ag ?_;refine aL (px (ch:=0) (cl:=10) (me:=50) (xs:=ql e cl me) (a3 _) dP (.inr ⟨bn,rfl,aY⟩) ?_ (by simp[ql]) aa ai ai (by rw[PD];decide) (by simp only;rw[ec];omega)) ?_
 ·simp[ql,kH];omega
 rintro v fH ⟨hv,a4⟩
 cases hv
 have f4:=a4.mem hb;simp only[tr]at f4;refine⟨dG f4,?_⟩;exact aC du ao ⟨rfl,H1,a4⟩
def IP (a:aq A H n X σ)(hc:n.ar id=some c)(hh:n.h? id no=some h)(R:yc n id no h):
 ay E 243 #[pV (A.chan id no)] σ λe' τ=>e'=.returned (.tuple #[])/\At A (n.pz id no) X τ:=by
 refine aW func243 ntmps243 results243 λQ aC an aA=>?_;refine ag ?_;refine aL (L8 a hc hh R) ?_;rintro v τ ⟨hv,H1,a1⟩
 cases hv
 obtain⟨c1,cB,ec⟩:=Bq (Bp.trans (Bo hc));obtain⟨h1,mL,eh⟩:=TR (TQ.trans (TP hh));obtain⟨lj,kj,mM,qC,xg⟩:=a1.chm cB;refine ag ?_;refine bG 12 ?_;refine bt (a1.bW mL) (a1.eu cB) ?_;refine Ch (b:=H1.chm id) (k:=(no:Int)) (l:=lj) (c:=kj) ue qC.uniq ?_ mM ?_ ?_
 ·exact au
 ·exact au
 obtain⟨d1,d2⟩:=DZ qC xg (no:Int)
 have em:((c1.ch.map λe=>((e.1:Int),pV (A.chan id e.1))).filter λe=>decide (e.1≠(no:Int)))=(cF c1.ch no).map λe=>((e.1:Int),pV (A.chan id e.1)):=by unfold cF;rw[List.filter_map];congr 1;apply List.filter_congr;intro e _;simp only[Function.comp,decide_eq_decide];omega
 rw[em]at d2;have a2:=a1.aar cB no ⟨_,_,rfl,d1,d2⟩;have nch:¬A.chan id no=H1.chm id:=λe=>by have:=a1.chan mL;rw[e,mM]at this;simp[aU,iu]at this
 have ncn:¬A.conn id=H1.chm id:=λe=>by have:=a1.conn cB;rw[e,mM]at this;simp[aU,fi]at this
 have g2:=λo=>(Hp.az (o:=o) nch).trans (a1.bW mL);have f2:=λo=>(Hp.az (o:=o) ncn).trans (a1.eu cB);refine Sg g2 f2 ?_;exact aC du ao ⟨rfl,H1,a2⟩
end
section
variable {H:Hid}{n:N}{X:Ext}{σ:Hp}{τ:Hp}{no:Nat}{nm:List UInt8}{c:CN}{h:HN}{q:QN}{k:Int}{o:Obj}{b:Nat}{E:Env prog}{e:Nat}{m:aX}
variable {A:Lay}{id:Int}
def Qt {na:Bool}(a:aq A H n X σ)(hh:n.h? id no=some h)(hq:n.q? nm=some q)(b1:0<=h.r.tag/\h.r.tag<=1000000000000)(b2:0<=q.held/\q.held<=1000000)(iF:∀e∈h.un,(e.1:Int)≠h.r.tag+1):
 ay E 291 #[pV (A.chan id no),pV (A.queue nm),m.v,.bool na] σ λe τ=>e=.returned (iV (h.r.tag+1))/\aq A H (n.hand id no nm m na) X τ:=by
 show ay E 291 #[pV (A.chan id no),pV (A.queue nm),.agg #[iV m.seq,sV m.key,sV m.body,.bool m.again],.bool na] σ _;refine aW func291 ntmps291 results291 λQ aC an aA=>?_;have w1:IntKind.i64.wrap (h.r.tag+1)=h.r.tag+1:=wrap64 aa aa;have w2:IntKind.i64.wrap (q.held+1)=q.held+1:=wrap64 aa aa;refine ag ?_;refineλb5 lC=>?_;refine ag ?_;have a5:=λo=>a.iH lC o;have f5:=λo=>(a5 o).bW hh;refine bt f5 w1 ?_;have a6:=λo=>(a5 o).xP hh λr=>{r with tag:=r.tag+1};generalize hZ:Hp.set (Hp.set σ b5 _) (A.chan id no) _=wH;replace a6:=dO (a6 _) hZ;have oL:(n.cS id no λr=>{r with tag:=r.tag+1}).h? id no=some {h with r:={h.r with tag:=h.r.tag+1}}:=by simp[hh]
 cases na with
 |true=>
  refine aG (a6.bW oL) ?_;refine an aI ao ⟨by simp[up],?_⟩;exact a6.oD
 |false=>
  have tP:(n.cS id no λr=>{r with tag:=r.tag+1}).q? nm=some q:=hq;refine bt (a6.sY tP) w2 ?_;have a7:=a6.Hj tP (λq=>{q with held:=q.held+1}) rfl rfl;generalize vp:Hp.set wH (A.queue nm) _=pc;replace a7:=dO a7 vp;have x7:=a7.eC;simp only at x7;have C1:((n.cS id no λr=>{r with tag:=r.tag+1}).bL nm λq=>{q with held:=q.held+1}).h? id no=some {h with r:={h.r with tag:=h.r.tag+1}}:=by simp[hh]
  obtain⟨l,kk,fL,gR,ic⟩:=a7.un C1;refine bG 12 ?_;refine bt (a7.bW C1) x7 ?_;refine⟨by(repeat(first|exact js|(apply jr;(focus decide+kernel))|(refine kS rfl (aK (a7.bW C1)) ?_))),?_⟩;refine ag ?_;refine Ba (b:=A.un id no) (k:=h.r.tag+1) (l:=l) (c:=kk) A6 gR.uniq ?_ fL ?_ ?_
  ·exact au
  ·exact au
  refine ag ?_
  have hnk:∀e∈(h.un.map λe=>((e.1:Int),tG (A.queue e.2.1) e.2.2)),e.1≠h.r.tag+1:=by intro e he;obtain⟨y,hy,rfl⟩:=List.mem_map.1 he;exact iF y hy
  obtain⟨d1,d2⟩:=D1 gR ic hnk (tG (A.queue nm) m);have et:(((h.r.tag+1).toNat:Nat):Int)=h.r.tag+1:=aa
  have a8:=a7.Ul C1 (λh=>{h with un:=h.un++[(h.r.tag.toNat,(nm,m))]}) rfl rfl (o:=aU aV (ji l (h.r.tag+1) (.agg #[pV (A.queue nm),iV m.seq,sV m.key,sV m.body,.bool m.again]) kk) (ju l (h.r.tag+1) kk))
   ⟨_,_,rfl,d1,d2.trans (by simp only[List.map_append,List.map_cons,List.map_nil,et];exact List.perm_append_comm (l₁:=[_]))⟩
  have f8:=a8.bW (h:={h with r:={h.r with tag:=h.r.tag+1},un:=h.un++[((h.r.tag+1).toNat,(nm,m))]}) (by rw[jI,C1];simp);have x8:=a8.eC;simp only at x8;refine⟨iP f8 x8,?_⟩;refine aG f8 ?_;refine an aI ao ⟨by simp[up],?_⟩
  have es:n.hand id no nm m false=((n.cS id no λr=>{r with tag:=r.tag+1}).bL nm λq=>{q with held:=q.held+1}).bB id no λh=>{h with un:=h.un++[(h.r.tag.toNat,(nm,m))]}:=by have e1:∀(n:N) (f:HN->HN) (g:QN->QN),(n.bL nm g).bB id no f=(n.bB id no f).bL nm g:=λ_ _ _=>rfl;rw[e1];unfold N.hand N.cS;rw[MO,if_neg Bool.false_ne_true]
  rw[es];exact a8.oD
end
section
variable {n:N}{no:Nat}{nm:List UInt8}{c:CN}{h:HN}{k:Int}{m:aX}{na:Bool}
variable {id:Int}
def OO (hc:n.ar id=some c):∃c',(n.hand id no nm m na).ar id=some c'/\c'.r=c.r:=by
 unfold N.hand;split
 ·simp[hc]
 ·simp[hc]
def Qj (hh:n.h? id no=some h):∃h',(n.hand id no nm m na).h? id no=some h'/\h'.r={h.r with tag:=h.r.tag+1}:=by
 unfold N.hand;split
 ·simp[hh]
 ·simp[hh]
def Vj:(n.hand id no nm m na).x? k=n.x? k:=by unfold N.hand;split<;>rfl
end
section
variable {H:Hid}{n:N}{X:Ext}{σ:Hp}{τ:Hp}{no:Nat}{nm:List UInt8}{c:CN}{h:HN}{q:QN}{k:Int}{x:XN}{o:Obj}{E:Env prog}{e:Nat}{cl:Nat}{me:Nat}{m:aX}{na:Bool}
variable {A:Lay}{id:Int}
def ape {fr:Nat}(a:aq A H n X σ)(hx:n.x? k=some x)(hc:n.ar x.id=some c)(hh:n.h? x.id x.no=some h)(hq:n.q? x.q=some q)(b1:0<=h.r.tag/\h.r.tag<=1000000000000)(b2:0<=q.held/\q.held<=1000000)(iF:∀e∈h.un,(e.1:Int)≠h.r.tag+1)
 (gP:c.r.frame=(fr:Int)) (f1:9<=fr/\fr<=1000000) (dY:x.no<1000000) (fN:c.r.out.length<=100000000000000) (Qx:m.body.length<=100000) (arO:m.key.length<=1000) (ar5:x.tag.length<=1000):
 ay E 328 #[pV (A.chan x.id x.no),pV (A.cons k),m.v] σ λe τ=>e=.returned (.tuple #[])/\aq A H (n.take k m) X τ:=by
 show ay E 328 #[pV (A.chan x.id x.no),pV (A.cons k),.agg #[iV m.seq,sV m.key,sV m.body,.bool m.again]] σ _;refine aW func328 ntmps328 results328 λQ aC an aA=>?_;obtain⟨tg,AV⟩:∃tg:Nat,h.r.tag=(tg:Int):=⟨h.r.tag.toNat,aa⟩;refine ag ?_;refineλb5 lC=>?_;refine ag ?_;have a5:=λo=>a.iH lC o;have x5:=λo=>(a5 o).eC;simp only at x5;have c5:=λo=>(a5 o).ve hx;refine bG 12 ?_;refine bt c5 x5 ?_;refine aL (Qt (m:=m) (na:=x.fe) (a5 _) hh hq b1 b2 iF) ?_;rintro v τ ⟨hv,a6⟩;have IS:h.r.tag+1=((tg+1:Nat):Int):=aa;obtain rfl:v=iV ((tg+1:Nat):Int):=by rw[<-IS];injection hv
 obtain⟨c6,ib,se⟩:=OO (n:=n) (no:=x.no) (nm:=x.q) (m:=m) (na:=x.fe) hc;obtain⟨h6,oL,eh6⟩:=Qj (n:=n) (nm:=x.q) (m:=m) (na:=x.fe) hh;have tT:(n.hand x.id x.no x.q m x.fe).x? k=some x:=by rw[Vj];exact hx
 have x6:=a6.eC;simp only at x6;refine⟨iP x6 (a6.ve tT),?_⟩;refine ag ?_;refine bG 23 ?_;refine bO (a6.bW oL) (a6.ve tT) x6 ?_;refineλbn cz=>?_;have a7:=λo=>a6.fresh cz o;have x7:=λo=>(a7 o).eC;simp only at x7;have h7:=λo=>(a7 o).bW oL;have c7:=λo=>(a7 o).ve tT;refine⟨dG h7,?_⟩;refine ag ?_;refine aL (px (ch:=x.no) (cl:=60) (me:=60) (xs:=[.text x.tag,.mW (tg+1),.flag m.again,.text m.key]) (a7 _) ib (.inr ⟨bn,rfl,aY⟩) ?_ al aa ai ai ?_ (by rw[se];omega)) ?_
 ·simp[kH];omega
 ·simp[cW,ep,bV];omega
 rintro v τ8 ⟨hv,a8⟩
 cases hv
 have aM:(ck x.no 60 60 [.text x.tag,.mW (tg+1),.flag m.again,.text m.key]).length<=3000:=by rw[Iw];simp[cW,ep,bV];omega
 generalize hS:ck x.no 60 60 [.text x.tag,.mW (tg+1),.flag m.again,.text m.key]=S at a8 aM;have C2:((n.hand x.id x.no x.q m x.fe).send x.id S).h? x.id x.no=some h6:=by rw[pE];exact oL
 have yK:((n.hand x.id x.no x.q m x.fe).send x.id S).ar x.id=some {c6 with r:={c6.r with out:=c6.r.out++S,gV:=(n.hand x.id x.no x.q m x.fe).clock}}:=by rw[rY,if_pos rfl,ib];rfl
 have hx8:((n.hand x.id x.no x.q m x.fe).send x.id S).x? k=some x:=by rw[Vk];exact tT
 have x8:=a8.eC;simp only at x8;have h8:=a8.bW C2;have Y6:=a8.ve hx8;have f8:=a8.eu yK;simp only[se,gP]at f8;refine⟨dA h8 Y6 x8,?_⟩;refine ag ?_;refine bG 19 ?_;refine bO h8 x8 f8 ?_;refine aR (OR (ch:=x.no) (size:=fr) (body:=m.body) aa f1.1 f1.2 aa) ?_;refine⟨dG h8,?_⟩;refine ag ?_
 have ad1:(lT x.no m.body fr).length<=1000000:=by unfold lT;have:=Tx x.no (fr-8) aa m.body.length m.body (Nat.le_refl _);simp only[List.length_append,nL,bV];omega
 refine aL (Mb (s:=lT x.no m.body fr) a8 yK (by simp only[List.length_append,se];omega)) ?_;rintro v uP ⟨hv,a9⟩
 cases hv
 have x9:=a9.eC;simp only at x9;have J0:(((n.hand x.id x.no x.q m x.fe).send x.id S).send x.id (lT x.no m.body fr)).h? x.id x.no=some h6:=by rw[pE];exact C2
 have CQ:∃c9,(((n.hand x.id x.no x.q m x.fe).send x.id S).send x.id (lT x.no m.body fr)).ar x.id=some c9/\c9.r.frame=fr:=by rw[rY,if_pos rfl,yK];exact⟨_,rfl,by simp only;rw[se];exact gP⟩
 obtain⟨c9,CQ,IN⟩:=CQ;have h9:=a9.bW J0;have f9:=a9.eu CQ;rw[IN]at f9;refine⟨dA h9 x9 f9,?_⟩;refine aC du ao ⟨rfl,?_⟩
 have e:n.take k m=((n.hand x.id x.no x.q m x.fe).send x.id S).send x.id (lT x.no m.body fr):=by
  unfold N.take;rw[hx];have e1:n.tag x.id x.no=tg:=by unfold N.tag;rw[hh];simp[AV]
  have e2:(n.hand x.id x.no x.q m x.fe).frame x.id=fr:=by unfold N.frame;rw[ib];simp[se,gP]
  simp only[N.give,e1,e2,hS]
 rw[e];exact a9.oD
end
section
variable {H:Hid}{n:N}{X:Ext}{σ:Hp}{τ:Hp}{no:Nat}{nm:List UInt8}{c:CN}{h:HN}{q:QN}{k:Int}{x:XN}{b:Nat}{E:Env prog}{e:Nat}{m:aX}
variable {A:Lay}{id:Int}
def HY (n:N)(nm:List UInt8)(q:QN):Prop:=q.cons.length<=1000/\∀k∈q.cons,∃x h,n.x? k=some x/\x.q=nm/\n.h? x.id x.no=some h
def oB (A:Lay)(n:N)(k:Int):gL:=match n.x? k with
 |some x=>⟨A.cons k,A.chan x.id x.no,k,x.tag,x.fe,match n.h? x.id x.no with|some h=>h.r.free h.un.length|none=>false⟩
 |none=>⟨0,0,k,[],false,false⟩
def ZV:(oB A n k).may=n.may k:=by
 unfold oB N.may gL.may
 cases n.x? k with
 |none=>rfl
 |some x=>simp only[];cases n.h? x.id x.no<;>rfl
def ZW:(oB A n k).no=k:=by unfold oB;cases n.x? k<;>rfl
def apo (cs:List Int)(last:Int):BG (cs.map (oB A n)) last=(((cs.filter n.may).find? λk=>decide (k>last)).or (cs.filter n.may).head?).map (oB A n):=by
 unfold BG
 have e1:(cs.map (oB A n)).filter gL.may=(cs.filter n.may).map (oB A n):=by rw[List.filter_map];congr 1;apply List.filter_congr;intro k _;exact ZV
 rw[e1,List.find?_map];have e2:((λx:gL=>decide (x.no>last))∘oB A n)=λk=>decide (k>last):=by funext k;simp[ZW]
 rw[e2]
 cases(cs.filter n.may).find? λk=>decide (k>last)with
 |some k=>rfl
 |none=>cases cs.filter n.may<;>rfl
def apq (a:aq A H n X σ)(hq:n.q? nm=some q)(T:HY n nm q):
 ay E 89 #[pV (A.queue nm)] σ λe τ=>e=.returned (match n.uM q with|some k=>pV (A.cons k)|none=>.pointer none)/\τ=σ:=by
 have hv:=a.hU hq
 have ev:(q.cons.map λk=>pV (A.cons k))=(q.cons.map (oB A n)).map λx=>pV x.cb:=by rw[List.map_map];apply List.map_congr_left;intro k hk;obtain⟨x,h,hx,_⟩:=T.2 k hk;simp[oB,hx]
 rw[ev]at hv;refine(apn (a.queue hq) hv (λy hy=>?_) (by simpa using T.1)).mono ?_
 ·obtain⟨k,hk,rfl⟩:=List.mem_map.1 hy;obtain⟨x,h,hx,zc,hh⟩:=T.2 k hk;obtain⟨l,c,h1,h2,h3⟩:=a.un hh;have hlen:l.length=h.un.length:=by have:=h3.length_eq;simpa using this
  refine⟨?_,A.conn x.id,A.un x.id x.no,A.co x.id x.no,c,x.no,h.r,l,?_,?_,?_⟩
  ·have:=a.cons hx;rw[zc]at this;simpa[oB,hx]using this
  ·simpa[oB,hx]using a.chan hh
  ·exact h1
  ·simp[oB,hx,hh,hlen]
 ·rintro e τ ⟨rfl,rfl⟩;refine⟨?_,rfl⟩;rw[apo];unfold N.uM
  cases hz:((q.cons.filter n.may).find? λk=>decide (k>q.last)).or (q.cons.filter n.may).head? with
  |none=>rfl
  |some k=>
   have hk:k∈q.cons:=by
    cases hf:(q.cons.filter n.may).find? λk=>decide (k>q.last)with
    |some j=>rw[hf,Option.some_or]at hz;cases hz;exact(List.mem_filter.1 (List.mem_of_find?_eq_some hf)).1
    |none=>
     rw[hf,Option.none_or]at hz;obtain⟨l,hl⟩:=List.head?_eq_some_iff.1 hz;have:k∈q.cons.filter n.may:=by rw[hl];simp
     exact(List.mem_filter.1 this).1
   obtain⟨x,h,hx,_⟩:=T.2 k hk;simp[qK,oB,hx]
def S6 {ms:List aX}(a:aq A H n X σ)(hq:n.q? nm=some q)(hr:q.ready=m::ms)(hn:ms.length<=1000):
 ay E 90 #[pV (A.queue nm)] σ λe τ=>e=.returned (.tuple #[m.v,.bool true])/\At A (n.bL nm λq=>{q with ready:=q.ready.tail}) X τ:=by
 refine(ajv (a.queue hq) (by rw[<-hr];exact a.eP hq) hn).mono ?_;rintro e τ ⟨rfl,iU,hm,hle,b,off,Tn,n1,n1',c1,u9,e1,e2⟩;refine⟨rfl,H.jv nm iU,?_⟩;have:=a.ahH hq (rv:=iU) (λq=>{q with ready:=q.ready.tail}) rfl (by rw[e1];rfl) (by rw[e2];rfl) (by simp only;rw[hr];exact hm) (by rw[e1,e2];rfl);exact this.le hle
end
def aiT{σ:Hp}{h:Nat}{Q:FuncId×Value->Hp->Prop}{H:Halt->Hp->Prop}:wpS prog (method (prog.types.size+Made.depth) 185 (pV h) "Take") Q H σ=Q (328,pV h) σ:=ah
section
variable {H:Hid}{H':Hid}{n:N}{X:Ext}{σ:Hp}{τ:Hp}{no:Nat}{nm:List UInt8}{c:CN}{h:HN}{q:QN}{k:Int}{x:XN}{o:Obj}{b:Nat}{E:Env prog}{e:Nat}{m:aX}{na:Bool}
variable {A:Lay}{id:Int}
def VI (n:N)(k:Int)(m:aX):Prop:=∃(x:XN) (c:CN) (h:HN) (q:QN) (fr:Nat),n.x? k=some x/\n.ar x.id=some c/\n.h? x.id x.no=some h/\n.q? x.q=some q/\(0<=h.r.tag/\h.r.tag<=1000000000000)/\(0<=q.held/\q.held<=1000000)/\(∀e∈h.un,(e.1:Int)≠h.r.tag+1)/\
 c.r.frame=(fr:Int)/\(9<=fr/\fr<=1000000)/\x.no<1000000/\c.r.out.length<=100000000000000/\m.body.length<=100000/\m.key.length<=1000/\x.tag.length<=1000
structure H9 (n:N):Prop where
 jl:dM cL (n.aN.map (·.1))
 len:n.aN.length<=12
 uM:∀nm q,n.q? nm=some q->HY n nm q/\q.ready.length<=1000
 take:∀nm q m ms k,n.q? nm=some q->q.ready=m::ms->n.uM q=some k->VI (n.bL nm λq=>{q with ready:=q.ready.tail,last:=k}) k m
def TK {f:QN->QN}:(n.bL nm f).aN.map (·.1)=n.aN.map (·.1):=ow n.aN nm f λx=>x
def amj {na:Bool}:(n.hand id no nm m na).aN.map (·.1)=n.aN.map (·.1):=by
 unfold N.hand;split
 ·rfl
 ·rw[TK];rfl
def aml:(n.take k m).aN.map (·.1)=n.aN.map (·.1):=by
 unfold N.take;split
 ·rfl
 ·exact amj
def amk {n':N}(h:n.iG nm=some n'):n'.aN.map (·.1)=n.aN.map (·.1):=by
 unfold N.iG at h;split at h
 ·cases h
 ·split at h
  ·cases h
  ·split at h
   ·cases h
   ·cases h;rw[aml,TK]
def aql {j:Int}:(n.take k m).x? j=n.x? j:=by
 unfold N.take;split
 ·rfl
 ·simp only[N.give,Vk,Vj]
def anF {f:Nat}(h:n.iG nm=none):n.j8 f nm=n:=by
 cases f with
 |zero=>rfl
 |succ f=>unfold N.j8;rw[h]
def anE (hq:n.q? nm=some q){ms:List aX}(hr:q.ready=m::ms)(ht:n.uM q=some k):n.iG nm=some ((n.bL nm λq=>{q with ready:=q.ready.tail,last:=k}).take k m):=by unfold N.iG;simp only[hq,hr,ht]
def TH {na:Bool}{cY:List UInt8}(h:n.q? cY=some q):∃q',(n.hand id no nm m na).q? cY=some q'/\q'.ready=q.ready:=by
 unfold N.hand;split
 ·exact⟨q,h,rfl⟩
 ·rw[uA];split
  ·exact⟨{q with held:=q.held+1},by rw[G8,h];rfl,rfl⟩
  ·exact⟨q,h,rfl⟩
def ame (h:n.q? nm=some q):∃q',(n.take k m).q? nm=some q'/\q'.ready=q.ready:=by
 unfold N.take;split
 ·exact⟨q,h,rfl⟩
 ·exact TH h
def Ug {J:N->Prop}(hJ:∀n,J n->H9 n)(jK:∀n nm n',J n->n.iG nm=some n'->J n')(a:aq A H n X σ)(j:J n):
 ay E 54 #[pV A.br] σ λe τ=>e=.returned (.tuple #[])/\At A n.serve X τ/\J n.serve:=by
 refine YY func54 ntmps54 results54 rfl al λQ aC an aA=>?_;have S:=hJ n j;obtain⟨lq,kq,jf,gD,lE⟩:=a.mq;have Rl:lq.length=n.aN.length:=by have:=lE.length_eq;simpa using this
 obtain⟨nf,yY⟩:∃nf:Nat->List UInt8,∀e∈n.aN,nf (A.queue e.1)=e.1:=by
  refine⟨λb=>((n.aN.find? λe=>decide (A.queue e.1=b)).map (·.1)).getD [],λe he=>?_⟩
  cases hf:n.aN.find? λe'=>decide (A.queue e'.1=A.queue e.1)with
  |none=>have:=List.find?_eq_none.1 hf e he;simp at this
  |some e'=>
   have h1:=List.find?_some hf;simp only[decide_eq_true_eq]at h1;have:=a.inj (.queue e'.1) (.queue e.1) (by have:=xx (List.mem_of_find?_eq_some hf);simpa[view]using this) (by have:=xx he;simpa[view]using this) (by simpa[cD]using h1);injection this with e1;simp only[hf];simpa using e1
 have sD:=lE.map (·.2);simp only[List.map_map]at sD;obtain⟨qs,y7,mR⟩:=zn sD (xs:=n.aN.map λe=>A.queue e.1) (f:=dU) (by simp[List.map_map,Function.comp_def,dU])
 have Kf:qd σ nf qs:=by intro b hb;obtain⟨e,he,rfl⟩:=List.mem_map.1 (y7.mem_iff.1 hb);obtain⟨q,hq⟩:=Option.isSome_iff_exists.1 (xx he);exact⟨_,a.sY hq,by simp[yY e he]⟩
 refine ag ?_;refine aL (Ux a.tp rfl jf gD.old gD.nd (by rw[Rl];exact S.len) (by simpa[Function.comp_def]using mR) Kf) ?_;rintro v τ ⟨hle,v',ys,hv,p1,p2,p3,p4⟩
 cases hv
 have vI:ys=n.aN.map λe=>A.queue e.1:=by
  have e1:ys.map nf=n.aN.map (·.1):=by
   refine zG vR Io (((p1.trans y7).map nf).trans ?_) ?_ S.jl
   ·rw[List.map_map];have:(n.aN.map (nf∘λe=>A.queue e.1))=n.aN.map (·.1):=List.map_congr_left λe he=>yY e he;rw[this]
   ·rw[dM,List.pairwise_map];exact p2
  have e2:ys.map (λb=>A.queue (nf b))=ys:=by
   conv=>rhs;rw[<-List.map_id ys]
   apply List.map_congr_left;intro b hb;obtain⟨e,he,rfl⟩:=List.mem_map.1 ((p1.trans y7).mem_iff.1 hb);simp[yY e he]
  rw[<-e2];have:=congrArg (List.map A.queue) e1;simpa[List.map_map,Function.comp_def]using this
 subst vI;obtain⟨X',a1,qO⟩:=a.zY hle p3 p4;obtain⟨base,cap,rfl,_⟩:=p3.read;have hl:(n.aN.map λe=>A.queue e.1).length=n.aN.length:=al;refine aG hl ?_;refine dh (λm ρ ds ae=>ds=[]/\ρ 8=.slice base n.aN.length cap/\ρ 9=iV n.aN.length/\∃(j:Nat) (H':Hid) (n1:N),j+m=n.aN.length/\ρ 10=iV j/\aq A H' n1 X' ae/\J n1/\n1.aN.map (·.1)=n.aN.map (·.1)/\n1=((n.aN.map (·.1)).take j).foldl (λn nm=>n.j8 (n.ready nm) nm) n) n.aN.length ?_ ?_
 ·refine⟨rfl,?_,?_,0,H,n,al,?_,a1,j,rfl,rfl⟩<;>exact aK hl
 rintro m ρ ds cZ Y ⟨rfl,h8,h9,i,H1,n1,xi,bA,a1,j1,iO,xk⟩ hY
 cases m with
 |zero=>
  have c0:¬(i:Int)<n.aN.length:=aa;have xf:i=n.aN.length:=aa;simp only[go_sem,seval,h9,bA,c0,decide_false];have e:n1=n.serve:=by rw[xk,xf,List.take_of_length_le al];rfl
  exact aC du ao ⟨rfl,⟨H1,by rw[<-e];exact(qO a1).1⟩,by rw[<-e];exact j1⟩
 |succ m=>
  have hi:i<n.aN.length:=aa;have c0:(i:Int)<n.aN.length:=aa;have S1:=hJ n1 j1;obtain⟨_,sj⟩:=qO a1;obtain⟨b2,yv,e2,r2⟩:=sj.read;simp only[Value.slice.injEq]at e2;obtain⟨rfl,_,_⟩:=e2;obtain⟨ba,L,rfl,gO,hL⟩:=r2 i (aZ hi);simp only[List.getElem_map,dU]at hL;obtain⟨nm,jo⟩:∃nm,nm=n.aN[i].1:=⟨_,rfl⟩;rw[<-jo]at hL
  have Km:∀n2:N,n2.aN.map (·.1)=n.aN.map (·.1)->(n2.q? nm).isSome:=by
   intro n2 h2;have:nm∈n2.aN.map (·.1):=by rw[h2,jo];exact List.mem_map_of_mem (List.getElem_mem hi)
   obtain⟨e,he,h3⟩:=List.mem_map.1 this;rw[<-h3];exact xx he
  have w1:IntKind.i64.wrap ((i:Int)+1)=((i+1:Nat):Int):=by have:=S.len;rw[wrap64 aa aa];rfl
  simp only[go_sem,seval,h8,h9,bA,c0,decide_true];refine⟨aa,?_⟩;refine bt gO hL ?_;refine dh (λm' ρ ds fZ=>ds=[]/\ρ 3=pV (A.queue nm)/\ρ 8=.slice (some ⟨ba,0,none⟩) n.aN.length cap/\ρ 9=iV n.aN.length/\ρ 10=iV i/\∃(H':Hid) (n2:N),aq A H' n2 X' fZ/\J n2/\n2.aN.map (·.1)=n.aN.map (·.1)/\n2.ready nm=m'/\n2.j8 (n2.ready nm) nm=n1.j8 (n1.ready nm) nm) (n1.ready nm) ?_ ?_
  ·refine⟨rfl,?_,?_,?_,?_,H1,n1,a1,j1,iO,rfl,rfl⟩<;>exact nC h8 h9 bA
  rintro m' ρ ds iZ Y2 ⟨rfl,h3,h8,h9,bA,H2,n2,a2,j2,gQ,bY,iw⟩ Jx;have S2:=hJ n2 j2;obtain⟨q,hq⟩:=Option.isSome_iff_exists.1 (Km n2 gQ);obtain⟨T2,Dn⟩:=S2.uM nm q hq;have hrq:n2.ready nm=q.ready.length:=by unfold N.ready;rw[hq];rfl
  obtain⟨rb,rc,gT⟩:=(a2.eP hq).shape;have mf:=a2.sY hq;rw[gT]at mf
  have step:∀n3:N,n3=n1.j8 (n1.ready nm) nm->n3=((n.aN.map (·.1)).take (i+1)).foldl (λn nm=>n.j8 (n.ready nm) nm) n:=by intro n3 h;rw[List.take_succ_eq_append_getElem (aZ hi),List.foldl_append,<-xk];simp only[List.getElem_map,List.foldl_cons,List.foldl_nil];rw[<-jo];exact h
  have out:n2.iG nm=none->n2=n1.j8 (n1.ready nm) nm:=λh=>by rw[<-iw,anF h]
  cases gv:q.ready with
  |nil=>
   have lD:¬((([]:List aX).length:Nat):Int)>0:=ai;rw[gv]at mf;have arQ:¬((0:Nat):Int)>0:=ai;have e1:n2.iG nm=none:=by unfold N.iG;simp only[hq,gv]
   simp only[go_sem,seval,h3,bA,mf,List.length_nil,decide_false,w1];refine hY m _ _ _ _ aa ⟨rfl,?_,?_,i+1,H2,n2,aa,?_,a2,j2,gQ,step n2 (out e1)⟩ ao
   ·exact aK h8
   ·exact aK h9
   ·exact au
  |cons mm ms=>
   have lD:((q.ready.length:Nat):Int)>0:=by rw[gv];simp
   simp only[go_sem,seval,h3,mf,lD,decide_true];refine aL (apq a2 hq T2) ?_;rintro v dv ⟨hv,rfl⟩
   cases ht:n2.uM q with
   |none=>
    rw[ht]at hv
    cases hv
    have e1:n2.iG nm=none:=by unfold N.iG;simp only[hq,gv,ht]
    refine bt bA w1 ?_;refine hY m _ _ _ _ aa ⟨rfl,?_,?_,i+1,H2,n2,aa,?_,a2,j2,gQ,step n2 (out e1)⟩ ao
    ·exact aK h8
    ·exact aK h9
    ·exact au
   |some k=>
    rw[ht]at hv
    cases hv
    obtain⟨x,c,h,q',fr,hx,hc,hh,bz,t1,t2,t3,t4,t5,t6,t7,t8,t9,t10⟩:=S2.take nm q mm ms k hq gv ht;have sF:n2.x? k=some x:=hx;have a3:=a2.Hj hq (λq=>{q with last:=k}) rfl rfl;rw[gT]at a3;refine bO h3 (a2.ve sF) mf ?_;generalize hZ:Hp.set dv (A.queue nm) _=uP;replace a3:=dO a3 hZ;have lE:(n2.bL nm λq=>{q with last:=k}).q? nm=some {q with last:=k}:=by rw[uA,if_pos rfl,hq];rfl
    have tK:ms.length<=1000:=by have:=congrArg List.length gv;simp only[List.length_cons]at this;omega
    refine aL (S6 a3 lE gv tK) ?_;rintro v fH ⟨hv,H4,a4⟩;obtain rfl:v=.tuple #[.agg #[iV mm.seq,sV mm.key,sV mm.body,.bool mm.again],.bool true]:=by injection hv
    rw[EH]at a4;simp only[go_sem,seval];refineλb5 lC=>?_;simp only[go_sem,seval];rw[Hp.set_set];have a5:=λo=>a4.iH lC o;have x5:=λo=>(a5 o).eC;simp only at x5;have RP:(n2.bL nm λq=>{q with ready:=q.ready.tail,last:=k}).x? k=some x:=hx;have c5:=λo=>(a5 o).ve RP;refine bG 7 ?_;refine bt c5 x5 ?_;refine lJ (t:=185) (v:=pV (A.chan x.id x.no)) (recv:=pV (A.chan x.id x.no)) (f:=328) (name:= "Take") ?_ (λQ H h=>by rw[aiT];exact h) ?_
    ·exact au
    refine ag ?_;refine aL (ape (m:=mm) (a5 _) hx hc hh bz t1 t2 t3 t4 t5 t6 t7 t8 t9 t10) ?_;rintro v wH ⟨hv,a6⟩
    cases hv
    have hs:=anE hq gv ht;have j5:=jK n2 nm _ j2 hs;have hk5:=(amk hs).trans gQ;obtain⟨q5,vA,er5⟩:=ame (k:=k) (m:=mm) (n:=n2.bL nm λq=>{q with ready:=q.ready.tail,last:=k}) (q:={q with ready:=q.ready.tail,last:=k}) (nm:=nm) (by rw[uA,if_pos rfl,hq];rfl);have Gq:N.ready ((n2.bL nm λq=>{q with ready:=q.ready.tail,last:=k}).take k mm) nm=ms.length:=by unfold N.ready;rw[vA];simp[er5,gv]
    have AU:n2.ready nm=ms.length+1:=by rw[hrq,gv];rfl
    have tT:((n2.bL nm λq=>{q with ready:=q.ready.tail,last:=k}).take k mm).x? k=some x:=by rw[aql];exact RP
    have x6:=a6.eC;simp only at x6;refine⟨iP x6 (a6.ve tT),?_⟩;refine ag ?_;refine Jx ms.length _ _ _ _ aa ⟨rfl,?_,?_,?_,?_,_,_,a6.oD,j5,hk5,Gq,?_⟩ ao
    ·exact aK h3
    ·exact aK h8
    ·exact aK h9
    ·exact aK bA
    ·rw[Gq,<-iw,AU];show _=N.j8 (ms.length+1) n2 nm
     conv=>rhs;unfold N.j8
     rw[hs]
end
end Go.Qw
