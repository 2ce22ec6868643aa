/- 28 -/
import Derived.Test.YtpiabknabfbfhaaGreatDoorFramed27
set_option linter.all false
set_option maxRecDepth 100000
set_option maxHeartbeats 8000000
namespace Go.Qw
open Go Go.Conc Go.Proofs Go.Proofs.Tryz
section
variable {E:Env prog}{H:Hid}{n:N}{X:Ext}{U:Hp}{no:Nat}{c:CN}{h:HN}{nm:List UInt8}{q:QN}{bf:Nat}{f:FR}
variable {A:Lay}{id:Int}
def agB (d:Option TypeDesc):Array (String×TypeId):=match d with|some (.interface ms)=>ms|_=>#[]
def R3:∃ms,prog.underlying 45=some (.interface ms):=⟨agB (prog.underlying 45),ah⟩
def apx {s:List UInt8}{r:List UInt8×List UInt8}(h:jm s=some r):r.1.length<=s.length:=by have:=als h;omega
def aaJ {cl me:Nat}(a:aq A H n ((bf,bN f)::X) U)(w:Wf n)(hc:n.ar id=some c)(hh:n.h? id no=some h)(aK:f.cl=(cl:Int))(aN:f.me=(me:Int))(eV:no<1000000)(fK:c.r.out.length<=100000000000000)(ji:f.s.length<=1000000)
 (jh:∀nm q,n.q? nm=some q->q.ready.length<=1000/\q.cons.length<=1000000):
 aw E 268 #[pV (A.chan id no),pV bf] U (iw A X n bf f (n.declare id no f.s cl me)):=by
 refine aX func268 ntmps268 results268 λQ aB al az=>?_;refine ag ?_;refine iG sA a (tq a.eN rfl) (λnm rest R hr a1=>?_) (λhr s R a1=>az _ _ _ _ ao ?_)
 rotate_left
 ·have e:n.declare id no f.s cl me=.bad cl me:=by unfold N.declare;rw[hr]
  rw[e];exact⟨H,s,rfl,by rw[<-aK,<-aN];exact a1⟩
 refine ag ?_;refine qk a1 (λhs=>?_) (λhs=>az _ _ _ _ ao ?_)
 rotate_left
 ·have e:n.declare id no f.s cl me=.bad cl me:=by
   unfold N.declare;rw[hr];simp only at hs;cases rest with
   |nil=>exact absurd rfl hs
   |cons x l=>rfl
  rw[e];exact⟨H,rest,rfl,by rw[<-aK,<-aN];exact a1⟩
 simp only at hs;subst hs;have RG:nm.length<=1000000:=by have:=apx hr;simp only at this;omega
 have tail:∀{A1:Lay} {H1:Hid} {n1:N} {fP:Hp} {I:av} {q1:QN},aq A1 H1 n1 ((bf,bN {f with s:=[]})::X) fP->qi A A1->n1.h? id no=some h->n1.ar id=some c->n1.q? nm=some q1->q1.ready.length<=1000->q1.cons.length<=1000000->
  n.declare id no f.s cl me=.ok (n1.send id (cg no 50 11 [.text nm,.long q1.ready.length,.long q1.cons.length])) .nil->I 0=pV (A1.chan id no)->I 5=sV nm->I 6=pV (A1.queue nm)->
  cO E 60 (bM (aO (aO (aO (aO (aO (f268.body.getD .skip))))))) (lz (cO E 60 (aO (aO (aO (aO (aO (aO (f268.body.getD .skip))))))) Q) Q) I [] fP:=by
  intro A1 H1 n1 fP I q1 a2 hk fi dU gB AW CY e h0 h5 h6;simp only[f268,Option.getD_some,aO,bM];obtain⟨rb,rc,gZ⟩:=(a2.eQ gB).shape;obtain⟨cb,cc,kg,_⟩:=(show Sl 186 fP ((q1.cons.map A1.cons).map pV) _ by rw[List.map_map];exact a2.il gB).read;simp only[List.length_map]at kg;have mj:=a2.queue gB;rw[gZ,kg]at mj;refine Al [0,1,2,3,4,5,6,7,8,9,10,13,11,12,14,15,16,17] ?_;refine fA h0 h5 h6 (a2.bV fi) ?_;refine bz (Md mj) ?_;refine⟨by(repeat(first|exact jA|(apply jz;(focus decide+kernel))|(refine lf rfl (aP (a2.bV fi)) ?_))),?_⟩;refine ag ?_;refine bz (OW mj) ?_;refine⟨by(repeat(first|exact jA|(apply jz;(focus decide+kernel))|(refine lf rfl (aP (a2.bV fi)) ?_))),?_⟩;refine ag ?_;refineλbn cE=>?_;have a3:=λo=>a2.fresh cE o;have f3:=λo=>(a3 o).bV fi;refine⟨dL f3,?_⟩;refine ag ?_;refine aJ (pI (ch:=no) (cl:=50) (me:=11) (xs:=[.text nm,.long q1.ready.length,.long q1.cons.length]) (a3 _) dU (.inr ⟨bn,rfl,aT⟩) ?_ ak aa an an ?_ aa) ?_
  ·simp[kP];omega
  ·simp[bZ,dC,cB];omega
  rintro v gH ⟨hv,a4⟩
  cases hv
  have f4:=a4.bV (h:=h) (by rw[pO];exact fi);refine⟨kg4 h0 h5 h6 f4,?_⟩;refine ag ?_;refine al aG ao ?_;rw[e];exact⟨A1,H1,0,_,by simp[up,Er.v],hk,a4⟩
 refine bR (a1.bV hh) (a1.eC hc) a1.jM ?_;refine dI ac4 (aaI a1 w) ?_ (λch ae h=>by rcases h with⟨_,_,h,_⟩|⟨_,_,h,_⟩|⟨_,_,_,h,_⟩|⟨_,_,_,_,_,h,_⟩<;>cases h);rintro v cU (⟨q,hq,hv,rfl⟩|⟨hq,jx,hv,a2⟩|⟨hq,jx,Ko,hv,a2⟩|⟨hq,jx,Ko,b,H2,hv,a2⟩)
 ·cases hv
  obtain⟨l1,l2⟩:=jh nm q hq;refine ag ?_;refine tail a1 (.refl A) hh hc hq l1 l2 (by unfold N.declare;rw[hr];simp only[hq]) ?_ ?_ ?_<;>exact au
 ·cases hv
  have e:n.declare id no f.s cl me=.ok n (.cA 502 cl me):=by unfold N.declare;rw[hr];simp only[hq,jx,if_true]
  refine ag ?_;refine Po (d:=215) (i:=502) (j:=502) (k:=.i64) (inf:=t215) R3 ah ah ah ?_ ?_ ?_
  ·exact au
  ·exact au
  simp only[go_sem,seval,decide_true];refine aJ (jL (e:=502) a2 aK aN) ?_;rintro v dv ⟨b,hv,a3⟩
  cases hv
  refine ag ?_;refine al aG ao ?_;rw[e];exact⟨A,H,b,_,by simp[up],.refl A,a3⟩
 ·cases hv
  have e:n.declare id no f.s cl me=.ok n (.soft 506 cl me):=by unfold N.declare;rw[hr];simp only[hq,jx,Ko];rfl
  refine ag ?_;refine Po (d:=215) (i:=506) (j:=502) (k:=.i64) (inf:=t215) R3 ah ah ah ?_ ?_ ?_
  ·exact au
  ·exact au
  refine ag ?_;refine aJ (wI (e:=506) a2 aK aN) ?_;rintro v dv ⟨b,hv,a3⟩
  cases hv
  refine ag ?_;refine al aG ao ?_;rw[e];exact⟨A,H,b,_,by simp[up],.refl A,a3⟩
 ·cases hv
  have e:n.declare id no f.s cl me=.ok (({n with aL:=cJ cN n.aL nm ⟨[],0,0,[]⟩}:N).send id (cg no 50 11 [.text nm,.long 0,.long 0])) .nil:=by unfold N.declare;rw[hr];simp only[hq,jx];rw[if_neg ak,if_neg Ko]
  refine ag ?_;refine tail (A1:=A.tk nm b) (q1:=⟨[],0,0,[]⟩) a2 ⟨rfl,rfl,rfl⟩ hh hc ?_ ak ak e ?_ ?_ ?_
  ·show bw (cJ cN n.aL nm ⟨[],0,0,[]⟩) nm=_;rw[yr _ _ _ _ hq,if_pos rfl]
  ·exact au
  ·exact au
  ·simp only[go_sem,seval,Lay.tk]
end
section
variable {H:Hid}{n:N}{X:Ext}{U:Hp}{no:Nat}{h:HN}{q:QN}{k:Int}{x:XN}
variable {A:Lay}
def aq.aby (a:aq A H n ((A.cons k,kR (A.chan x.id x.no) k x.tag (A.queue x.q) x.fp)::X) U)(hk:n.x? k=none):aq A H {n with xs:=n.xs++[(k,x)]} X U:=by
 have RU:∀i,N.x? {n with xs:=n.xs++[(k,x)]} i=if i=k then some x else n.x? i:=by
  intro i;unfold N.x? bw;simp only[List.find?_append,List.find?_cons,List.find?_nil];by_cases e:i=k
  ·subst e;have:(n.xs.find? λe=>decide (e.1=i))=none:=by unfold N.x? bw at hk;simpa using hk
   simp[this]
  ·have e2:¬k=i:=λz=>e z.symm;simp[e2,e]
 have key:∀r,∃r',view {n with xs:=n.xs++[(k,x)]} A H X r=view n A H ((A.cons k,kR (A.chan x.id x.no) k x.tag (A.queue x.q) x.fp)::X) r'/\cI A H X r=cI A H ((A.cons k,kR (A.chan x.id x.no) k x.tag (A.queue x.q) x.fp)::X) r'/\
  ((r=.cons k/\r'=.ext 0)\/(∃i,r=.ext i/\r'=.ext (i+1))\/(r'=r/\(∀i,r≠.ext i)/\r≠.cons k)):=by
  intro r;by_cases e1:r=.cons k
  ·exact⟨.ext 0,by subst e1;simp[view,RU],by subst e1;simp[cI],.inl ⟨e1,rfl⟩⟩
  ·by_cases e2:∃i,r=.ext i
   ·obtain⟨i,rfl⟩:=e2;exact⟨.ext (i+1),by simp[view],by simp[cI],.inr (.inl ⟨i,rfl,rfl⟩)⟩
   ·refine⟨r,?_,?_,.inr (.inr ⟨rfl,λi h=>e2 ⟨i,h⟩,e1⟩)⟩
    ·cases r<;>first|rfl|exact absurd ⟨_,rfl⟩ e2|skip
     rename_i j;have:¬j=k:=λh=>e1 (by rw[h]);simp[view,RU,this]
    ·cases r<;>first|rfl|exact absurd ⟨_,rfl⟩ e2
 refine⟨λr v hv=>?_,λr s hr hs e=>?_⟩
 ·obtain⟨r',h1,h2,_⟩:=key r;rw[h2];exact a.has r' v (by rw[<-h1];exact hv)
 ·obtain⟨r',h1,h2,h3⟩:=key r;obtain⟨s',g1,g2,g3⟩:=key s;have h:=a.inj r' s' (by rw[<-h1];exact hr) (by rw[<-g1];exact hs) (by rw[<-h2,<-g2];exact e);rcases h3 with⟨rfl,rfl⟩|⟨i,rfl,rfl⟩|⟨rfl,f1,f2⟩<;>rcases g3 with⟨rfl,rfl⟩|⟨j,rfl,rfl⟩|⟨rfl,k1,k2⟩
  ·rfl
  ·cases h
  ·exact absurd h.symm (k1 _)
  ·cases h
  ·cases h;rfl
  ·exact absurd h.symm (k1 _)
  ·exact absurd h (f1 _)
  ·exact absurd h (f1 _)
  ·exact h
end
section
variable {E:Env prog}{H:Hid}{n:N}{X:Ext}{U:Hp}{no:Nat}{c:CN}{h:HN}{nm:List UInt8}{q:QN}{bf:Nat}{f:FR}{A':Lay}{R:Hp}{k:Int}{x:XN}
variable {A:Lay}{id:Int}
def aaq {cl me:Nat}(a:aq A H n ((bf,bN f)::X) U)(w:Wf n)(hc:n.ar id=some c)(hh:n.h? id no=some h)(aK:f.cl=(cl:Int))(aN:f.me=(me:Int))(eV:no<1000000)(fK:c.r.out.length<=100000000000000)(ar0:h.co.length<=4)
 (iL:n.x? (n.aY+1)=none) (b1:0<=n.aY/\n.aY<=1000000000000) (jh:∀nm q,n.q? nm=some q->q.cons.length<=1000):
 aw E 270 #[pV (A.chan id no),pV bf] U (iw A X n bf f (n.consume id no h f.s cl me)):=by
 refine aX func270 ntmps270 results270 λQ aB al az=>?_;refine ag ?_;refine xW [0,1,2,4,5,6,8,9,10,3,7,11,12,13,14] (λch ds U=>ds=[]/\(iw A X n bf f (n.consume id no h f.s cl me)) (.panicked ch) U) ah kE (λch I ds U h=>by obtain⟨rfl,h⟩:=h;exact az _ _ _ _ ao h) ?_;refine ag ?_;refine iG sA a (tq a.eN rfl) (λnm s1 R hr a1=>?_) (λhr s R a1=>⟨rfl,?_⟩)
 rotate_left
 ·have e:n.consume id no h f.s cl me=.bad cl me:=by unfold N.consume;rw[hr]
  rw[e];exact⟨H,s,rfl,by rw[<-aK,<-aN];exact a1⟩
 refine fL ?_;refine ag ?_;refine iG sA a1 (tq a1.eN rfl) (λtg s2 fP bX a2=>?_) (λbX s R a2=>⟨rfl,?_⟩)
 rotate_left
 ·have e:n.consume id no h f.s cl me=.bad cl me:=by unfold N.consume;rw[hr];simp only[bX]
  rw[e];exact⟨H,s,rfl,by rw[<-aK,<-aN];exact a2⟩
 simp only at bX;refine fL ?_;refine ag ?_;refine iG Jk a2 (Ja a2.eN rfl) (λna s3 cU ep a3=>?_) (λep s R a3=>⟨rfl,?_⟩)
 rotate_left
 ·have e:n.consume id no h f.s cl me=.bad cl me:=by unfold N.consume;rw[hr];simp only[bX,ep]
  rw[e];exact⟨H,s,rfl,by rw[<-aK,<-aN];exact a3⟩
 simp only at ep;refine fL ?_;refine ag ?_;refine qk a3 (λhs=>?_) (λhs=>az _ _ _ _ ao ?_)
 rotate_left
 ·have e:n.consume id no h f.s cl me=.bad cl me:=by
   unfold N.consume;rw[hr];simp only[bX,ep];simp only at hs;cases s3 with
   |nil=>exact absurd rfl hs
   |cons x l=>rfl
  rw[e];exact⟨H,s3,rfl,by rw[<-aK,<-aN];exact a3⟩
 simp only at hs;subst hs;by_cases t1:tg.length<1
 ·have Hv:(tg.length:Int)<1:=aa;have e:n.consume id no h f.s cl me=.ok n (.cA 502 cl me):=by unfold N.consume;rw[hr];simp only[bX,ep];rw[if_pos (.inl t1)]
  simp only[go_sem,seval,Hv,decide_true];refine aJ (jL (e:=502) a3 aK aN) ?_;rintro v dv ⟨b,hv,a4⟩
  cases hv
  refine ag ?_;refine al aG ao ?_;rw[e];exact⟨A,H,b,_,by simp[up],.refl A,a4⟩
 have Hv:¬(tg.length:Int)<1:=aa;by_cases t2:tg.length>8
 ·have ME:(tg.length:Int)>8:=aa;have e:n.consume id no h f.s cl me=.ok n (.cA 502 cl me):=by unfold N.consume;rw[hr];simp only[bX,ep];rw[if_pos (.inr t2)]
  simp only[go_sem,seval,Hv,ME,decide_true,decide_false];refine aJ (jL (e:=502) a3 aK aN) ?_;rintro v dv ⟨b,hv,a4⟩
  cases hv
  refine ag ?_;refine al aG ao ?_;rw[e];exact⟨A,H,b,_,by simp[up],.refl A,a4⟩
 have ME:¬(tg.length:Int)>8:=aa;have Gz:¬(tg.length<1\/tg.length>8):=aa;simp only[go_sem,seval,Hv,ME,decide_false,a3.bV hh,a3.eC hc,a3.jM]
 cases hq:n.q? nm with
 |none=>
  have e:n.consume id no h f.s cl me=.ok n (.soft 404 cl me):=by unfold N.consume;rw[hr];simp only[bX,ep];rw[if_neg Gz];simp only[hq]
  refine bz (I8 a3 hq) ?_;refine ag ?_;refine aJ (wI (e:=404) a3 aK aN) ?_;rintro v dv ⟨b,hv,a4⟩
  cases hv
  refine ag ?_;refine al aG ao ?_;rw[e];exact⟨A,H,b,_,by simp[up],.refl A,a4⟩
 |some q=>
 refine bz (I9 a3 hq) ?_;obtain⟨lc,kc,o1,o2,o3⟩:=a3.co hh;have AR:lc.length=h.co.length:=by have:=o3.length_eq;simpa using this
 refine aH (a3.bV hh) ?_;refine jU (b:=A.co id no) (k:=tg) (l:=lc) (c:=kc) zl (z:=.pointer none) ah ?_ o1 ?_ ?_
 ·exact au
 ·exact au
 rw[if_neg Bool.false_ne_true]
 cases hg:bw h.co tg with
 |some k=>
  have e:n.consume id no h f.s cl me=.ok n (.cA 530 cl me):=by unfold N.consume;rw[hr];simp only[bX,ep];rw[if_neg Gz];simp only[hq,hg];rfl
  obtain⟨st,bt⟩:=rP o2 o3 (List.mem_map_of_mem (f:=λe:List UInt8×Int=>(e.1,pV (A.cons e.2))) (gI hg));have dr:((dt lc tg).map (·.2.1)).getD (.pointer none)=pV (A.cons k):=by rw[bt];rfl
  rw[dr];refine ag ?_;refine aJ (jL (e:=530) a3 aK aN) ?_;rintro v dv ⟨b,hv,a4⟩
  cases hv
  refine ag ?_;refine al aG ao ?_;rw[e];exact⟨A,H,b,_,by simp[up],.refl A,a4⟩
 |none=>
 have Dj:∀e∈(h.co.map λe=>(e.1,pV (A.cons e.2))),e.1≠tg:=λe he=>by obtain⟨y,hy,rfl⟩:=List.mem_map.1 he;exact iF hg y hy
 have dr:((dt lc tg).map (·.2.1)).getD (.pointer none)=.pointer none:=by rw[map_none o3 Dj];rfl
 rw[dr];refine aH (a3.bV hh) ?_;refine GW zl ?_ o1 ?_
 ·exact au
 by_cases h4:h.co.length=4
 ·have sC:(lc.length:Int)=4:=aa;have e:n.consume id no h f.s cl me=.ok n (.soft 506 cl me):=by unfold N.consume;rw[hr];simp only[bX,ep];rw[if_neg Gz];simp only[hq,hg,h4];rfl
  simp only[go_sem,seval,eq_true sC,decide_true];refine aJ (wI (e:=506) a3 aK aN) ?_;rintro v dv ⟨b,hv,a4⟩
  cases hv
  refine ag ?_;refine al aG ao ?_;rw[e];exact⟨A,H,b,_,by simp[up],.refl A,a4⟩
 have sC:¬(lc.length:Int)=4:=aa;have e:n.consume id no h f.s cl me=.ok ((n.jr id no nm tg na).send id (cg no 60 21 [.text tg])) .nil:=by unfold N.consume;rw[hr];simp only[bX,ep];rw[if_neg Gz];simp only[hq,hg];rw[if_neg ak,if_neg h4]
 simp only[go_sem,seval,sC,decide_false];refineλcb mf=>?_;have Ir:Nb n A (A.BA (n.aY+1) cb) H H:=⟨rfl,rfl,rfl,rfl,rfl,λ_ _=>⟨rfl,rfl⟩,λ_ _ _=>⟨rfl,rfl,rfl⟩,λ_ _=>⟨rfl,rfl,rfl⟩,λj hj=>by simp[Lay.BA,Ms (f:=n.x?) iL hj]⟩;have a4:=a3.Hg w Ir
 have QU:(h.co.map λe=>(e.1,pV ((A.BA (n.aY+1) cb).cons e.2)))=h.co.map λe=>(e.1,pV (A.cons e.2)):=List.map_congr_left λe he=>by obtain⟨x,hx,_⟩:=w.co id no h hh e he;rw[Ir.cons e.2 (by rw[hx];rfl)]
 have FP:(A.BA (n.aY+1) cb).cons (n.aY+1)=cb:=by simp[Lay.BA]
 generalize hA:A.BA (n.aY+1) cb=A' at a4 QU FP Ir;have eA:A'.chan=A.chan/\A'.conn=A.conn/\A'.co=A.co/\A'.queue=A.queue/\A'.br=A.br/\A'.gw=A.gw:=by rw[<-hA];exact⟨rfl,rfl,rfl,rfl,rfl,rfl⟩
 obtain⟨wX,yC,Ao,FA,Ci,Pg⟩:=eA;have a5:=λo=>a4.iE mf o;have f5:=λo=>(a5 o).bV hh;simp only[wX,yC,Ao]at f5;refine aH f5 ?_;refine Bc (b:=A.co id no) (k:=tg) zl o2.uniq ?_ (kz mf _ _ o1) ?_ ?_
 ·exact au
 ·exact au
 obtain⟨d1,d2⟩:=D7 o2 o3 Dj (pV cb)
 have a6:=λo=>(a5 o).Mj hh (λh=>{h with co:=cJ cN h.co tg (n.aY+1)}) rfl rfl (o:=aU bP (jk lc tg (pV cb) kc) (jB lc tg kc)) ⟨_,_,rfl,d1,by
  refine d2.trans (List.Perm.symm ?_)
  refine((u0 (lt:=cN) h.co tg (n.aY+1)).map _).trans ?_
  simp only[List.map_cons,FP,QU]
  exact List.Perm.refl _⟩
 have im:(n.bA id no λh=>{h with co:=cJ cN h.co tg (n.aY+1)}).ar id=some {c with ch:=dw c.ch no λh=>{h with co:=cJ cN h.co tg (n.aY+1)}}:=by simp[hc]
 have oV:(n.bA id no λh=>{h with co:=cJ cN h.co tg (n.aY+1)}).h? id no=some {h with co:=cJ cN h.co tg (n.aY+1)}:=by simp[hh]
 have tZ:(n.bA id no λh=>{h with co:=cJ cN h.co tg (n.aY+1)}).q? nm=some q:=hq;generalize hN:(n.bA id no λh=>{h with co:=cJ cN h.co tg (n.aY+1)})=n6 at a6 im oV tZ;have f6:=λo=>(a6 o).bV oV;have g6:=λo=>(a6 o).eC im;have w6:=λo=>(a6 o).jM;simp only[wX,yC,Ao,Ci,Pg]at f6 g6 w6;refine bR f6 g6 w6 ?_;have aen:q.cons.length<=1000:=jh nm q hq;generalize kx:Hp.set (Hp.set cU cb _) (A.co id no) _=yd
 have b6:aq A' H n6 ((cb,kR (A'.chan id no) 0 tg (A'.queue nm) na)::(bf,bN {f with s:=[]})::X) yd:=by refine dT (a6 (kR (A'.chan id no) 0 tg (A'.queue nm) na)) ?_;rw[<-kx,wX,Ao,FA];rfl
 have emap:(q.cons.map λk=>pV (A'.cons k))=(q.cons.map A'.cons).map pV:=by rw[List.map_map];rfl
 have ji:=b6.il tZ;rw[emap]at ji;have qC:=b6.br;rw[Ci]at qC;have ue:=b6.ei;have qK:=b6.queue tZ;rw[FA]at qK;simp only[wX,FA]at ue;refine aJ (aap qC ue qK ji (aV aen) (by rw[<-hN];exact b1)) ?_;rintro v pA ⟨hv,ab,pad,dq,afg⟩
 cases hv
 have a8:=(b6.Up n6.messages (n6.aY+1)).uL (kR (A'.chan id no) (n6.aY+1) tg (A'.queue nm) na)
 have S0:∀{x o},yd.f x=some o->(∀z,o≠.cells z 186 (0,0))->¬ab=x:=by
  intro x o hx hz e;subst e;rcases dq with dq|⟨c',dq⟩
  ·rw[hx]at dq;cases dq
  ·rcases ji.form with⟨_,h2⟩|⟨a',alw,h2,h3⟩
   ·rw[dq]at h2;cases h2
   ·rw[dq]at h2;simp only[Value.slice.injEq,Option.some.injEq,Addr.mk.injEq]at h2;rw[h2.1.1,h3]at hx;exact hz _ (Option.some.inj hx).symm
 have n8:({n6 with messages:=n6.messages,aY:=n6.aY+1}:N).q? nm=some q:=tZ
 have a9:=a8.Uq (nm:=nm) n8 (b:=ab) (λq=>{q with cons:=q.cons++[n.aY+1]}) rfl
  (by
   rcases dq with dq|⟨c',dq⟩
   ·refine Hl.tC a8 _ ?_
    rw[Hp.ay (S0 ue (by simp[kR])),Hp.ay (by rw[Ci];exact S0 qC (by simp[ij]))];exact dq
   ·have Dm:kJ (H.cv nm)=false:=by rw[dq];rfl
    have eb:pG (H.cv nm)=ab:=by rw[dq];rfl
    have:=Hl.apart a8 (.il nm) (by rw[O3 n8 Dm];rfl)
    rw[<-eb];exact this)
  (cv:=.slice (some ⟨ab,0,none⟩) ((q.cons.map A'.cons).length+1) ((q.cons.map A'.cons).length+1+pad.length)) (o:=.cells ((q.cons.map A'.cons).map pV++[pV cb]++pad).toArray 186 (0,0))
  ⟨ab,pad,ak,by simp only[List.map_append,List.map_cons,List.map_nil,FP,emap]⟩ rfl
 have yq:=a9.le (R:=pA) (by rw[Ci,wX,FA];exact afg)
 have Ii:aq A' (H.px nm (.slice (some ⟨ab,0,none⟩) ((q.cons.map A'.cons).length+1) ((q.cons.map A'.cons).length+1+pad.length))) (n.jr id no nm tg na) ((bf,bN {f with s:=[]})::X) pA:=by
  have en:n6.aY=n.aY:=by rw[<-hN];rfl
  rw[en]at yq
  have:=aq.aby (A:=A') (k:=n.aY+1) (x:=⟨id,no,tg,nm,na⟩) (by rw[FP];exact yq) (by
   show n6.x? (n.aY+1)=none
   rw[<-hN];exact iL)
  rw[<-hN]at this;exact this
 have Ka:(n.jr id no nm tg na).h? id no=some {h with co:=cJ cN h.co tg (n.aY+1)}:=by rw[<-hN]at oV;exact oV
 have aeh:(n.jr id no nm tg na).ar id=some {c with ch:=dw c.ch no λh=>{h with co:=cJ cN h.co tg (n.aY+1)}}:=by rw[<-hN]at im;exact im
 have f11:=Ii.bV Ka;simp only[wX,yC,Ao]at f11;refine ag ?_;refine bJ 12 ?_;refine aH f11 ?_;refineλbn cE=>?_;have f12:=λo=>(Ii.fresh cE o).bV Ka;simp only[wX,yC,Ao]at f12;refine⟨dL f12,?_⟩;refine ag ?_;have QQ:=λo=>pI (E:=E) (ch:=no) (cl:=60) (me:=21) (xs:=[.text tg]) (Ii.fresh cE o) aeh (v:=.slice (some ⟨bn,0,none⟩) 1 1);rw[yC]at QQ;refine aJ (QQ _ (.inr ⟨bn,rfl,aT⟩) (by simp[kP]) ak aa an an (by simp[bZ,dC,cB];omega) (by simp only;omega)) ?_;rintro v atx ⟨hv,Nx⟩
 cases hv
 have f13:=Nx.bV (h:={h with co:=cJ cN h.co tg (n.aY+1)}) (by rw[pO];exact Ka);simp only[wX,yC,Ao]at f13;refine⟨dL f13,?_⟩;refine ag ?_;refine al aG ao ?_;rw[e];exact⟨A',_,0,_,by simp[up,Er.v],⟨Pg,Ci,yC⟩,Nx⟩
end
section
variable {E:Env prog}{H:Hid}{n:N}{X:Ext}{U:Hp}{no:Nat}{c:CN}{h:HN}{nm:List UInt8}{q:QN}{bf:Nat}{f:FR}{R:Hp}{k:Int}{x:XN}
variable {A:Lay}{id:Int}
def vP {cl me:Nat}(hk:f.u.kind=1)(aK:f.cl=(cl:Int))(aN:f.me=(me:Int))(x y:Nat):f.kY (x:Int) [(y:Int)]=decide (cl=x/\me=y):=by simp only[FR.kY,hk,aK,aN,decide_true,Bool.true_and,List.mem_singleton];by_cases h1:cl=x<;>by_cases h2:me=y<;>simp[h1,h2]<;>omega
def ahs {cl me:Nat}(hk:f.u.kind=1)(aK:f.cl=(cl:Int))(aN:f.me=(me:Int))(x y z:Nat):f.kY (x:Int) [(y:Int),(z:Int)]=decide (cl=x/\(me=y\/me=z)):=by simp only[FR.kY,hk,aK,aN,decide_true,Bool.true_and,List.mem_cons,List.not_mem_nil,or_false];by_cases h1:cl=x<;>by_cases h2:me=y<;>by_cases h3:me=z<;>simp[h1,h2,h3]<;>omega
def um {x:Int}{ms:List Int}{p:Prop}[Decidable p]{b cap:Nat}{o:Obj}{dst:Option Tmp}{I:av}{ds:List Deferred}{nx:av->List Deferred->Hp->Prop}{pn:List PanicEntry->Hp->Prop}(i:f.kY x ms=decide p)(a:aq A H n ((bf,bN f)::X) U)(hb:U.f b=none)
 (k:∀ae,aq A H n ((bf,bN f)::X) ae->nx (aA I dst (.bool (decide p))) ds ae) (ho:o=.cells (ms.map iV++[]).toArray 3 (0,0):=by rfl) (hn:ms.length<=1000:=by decide):jJ E 193 #[pV bf,iV x,.slice (some ⟨b,0,none⟩) ms.length cap] (U.set b o) dst I ds nx pn:=by
 subst ho;refine bz (uj (pad:=[]) (a.fresh hb _).ei aT hn) ?_;rw[i];exact k _ (a.fresh hb _)
def rW {atA:Fin->Hp->Prop}{x y:Fin}{R:Hp}(h:atA x R)(e:y=x):atA y R:=e▸h
def Pz (a:aq A H n ((bf,bN f)::X) U):aw E 230 #[pV bf] U λe R=>(te f.s=some []/\e=.returned (.tuple #[])/\aq A H n ((bf,bN {f with s:=[]})::X) R)\/(te f.s≠some []/\e=.panicked lH/\∃s,aq A H n ((bf,bN {f with s:=s})::X) R):=by
 refine aX func230 ntmps230 results230 λQ aB al az=>?_;refine ag ?_;refine iG nS a (oo (w:=2) a.eN rfl an) (λk s1 R hr a1=>?_) (λhr s R a1=>az _ _ _ _ ao (.inr ⟨by unfold te;rw[hr];simp,rfl,s,a1⟩));refine ag ?_;refine iG sA a1 (tq a1.eN rfl) (λtx s2 R bX a2=>?_) (λbX s R a2=>az _ _ _ _ ao (.inr ⟨by unfold te;rw[hr];simp only at bX|-;rw[bX];simp,rfl,s,a2⟩));simp only at bX;refine ag ?_;refine iG nS a2 (oo (w:=4) a2.eN rfl an) (λk3 s3 R ep a3=>?_) (λep s R a3=>az _ _ _ _ ao (.inr ⟨by unfold te;rw[hr];simp only at ep|-;rw[bX];simp only;rw[ep];simp,rfl,s,a3⟩));simp only at ep;have e:te f.s=some s3:=by unfold te;rw[hr];simp only;rw[bX];simp only;rw[ep]
 refine ag ?_;refine qk a3 (λhs=>?_) (λhs=>az _ _ _ _ ao (.inr ⟨by rw[e];simpa using hs,rfl,s3,a3⟩));simp only at hs;subst hs;refine ag ?_;exact aB dB ao (.inl ⟨e,by simp[up],a3⟩)
structure Ie (n:N) (id:Int) (no:Nat) (c:CN) (h:HN):Prop where
 w:Wf n
 xE:no<1000000
 out:c.r.out.length<=100000000000000
 co:h.co.length<=4
 new:n.x? (n.aY+1)=none
 aY:0<=n.aY/\n.aY<=1000000000000
 q:∀nm q,n.q? nm=some q->q.ready.length<=1000/\q.cons.length<=1000
 can:∀tg k,bw h.co tg=some k->E1 n k
 frame:∃fr:Nat,c.r.frame=(fr:Int)/\9<=fr/\fr<=1000000
 get:Ia n h
 settle:∀tag many b,H7 n id no h (sX tag many) b
 fin:yg (n.send id (cg no 20 41 [])) id no h
def ajn {cl me:Nat}(a:aq A H n ((bf,bN f)::X) U)(M:Ie n id no c h)(hc:n.ar id=some c)(hh:n.h? id no=some h)(hk:f.u.kind=1)(aK:f.cl=(cl:Int))(aN:f.me=(me:Int))(ji:f.s.length<=1000000):
 aw E 246 #[pV (A.chan id no),pV bf] U (iw A X n bf f (n.method id no h f.s cl me)):=by
 refine aX func246 ntmps246 results246 λQ aB al az=>?_;refine ag ?_;refineλb1 iN=>?_;refine ag ?_;refine um (x:=20) (ms:=[10]) (vP hk aK aN 20 10) a iN λdg a1=>?_;by_cases m1:cl=20/\me=10
 ·have e:n.method id no h f.s cl me=.ok n (.cA 504 cl me):=by unfold N.method;rw[if_pos m1]
  simp only[go_sem,seval,decide_eq_true m1];refine aJ (jL (e:=504) a1 aK aN) ?_;rintro v dv ⟨b,hv,a4⟩
  cases hv
  refine ag ?_;refine al aG ao ?_;rw[e];exact⟨A,H,b,_,by simp[up],.refl A,a4⟩
 simp only[go_sem,seval,decide_eq_false m1];refineλb2 dh=>?_;refine ag ?_;refine um (x:=20) (ms:=[40]) (vP hk aK aN 20 40) a1 dh λja a2=>?_;by_cases m2:cl=20/\me=40
 ·have e:n.method id no h f.s cl me=n.close id no f.s cl me:=by unfold N.method;rw[if_neg m1,if_pos m2]
  simp only[go_sem,seval,decide_eq_true m2];refine dI P3 (Pz a2) ?_ (λch R hx=>az _ _ _ _ ao ?_)
  rotate_left
  ·rcases hx with⟨_,h,_⟩|⟨hp,h,s,a4⟩
   ·cases h
   ·cases h
    have e2:n.close id no f.s cl me=.bad cl me:=by
     unfold N.close;cases hq:te f.s with
     |none=>rfl
     |some l=>cases l with
      |nil=>exact absurd hq hp
      |cons x l=>rfl
    rw[e,e2];exact⟨H,s,rfl,by rw[<-aK,<-aN];exact a4⟩
  rintro v dv (⟨hp,hv,a4⟩|⟨_,h,_⟩)
  rotate_left
  ·cases h
  cases hv
  have e2:n.close id no f.s cl me=.ok ((n.send id (cg no 20 41 [])).lJ id no) .nil:=by unfold N.close;rw[hp]
  refine ag ?_;refine bJ 9 ?_;refine aH (a4.bV hh) ?_;have eV:=M.xE;have fK:=M.out;refine aJ (pI (ch:=no) (cl:=20) (me:=41) (xs:=[]) a4 hc (.inl ⟨rfl,rfl⟩) ak ak aa an an (by simp[bZ]) aa) ?_;rintro v gH ⟨hv,a5⟩
  cases hv
  have yS:(n.send id (cg no 20 41 [])).h? id no=some h:=by rw[pO];exact hh
  have kU:(n.send id (cg no 20 41 [])).ar id=some {c with r:={c.r with out:=c.r.out++cg no 20 41 [],ib:=n.clock}}:=by rw[sw,if_pos rfl,hc];rfl
  refine⟨by(repeat(first|exact jA|(apply jz;(focus decide+kernel))|(refine lf rfl (aP (a5.bV yS)) ?_))),?_⟩;refine ag ?_;refine aJ (IY a5 kU yS M.fin) ?_;rintro v dA ⟨hv,H2,a6⟩
  cases hv
  refine ag ?_;refine al aG ao ?_;rw[e,e2];exact⟨A,H2,0,_,by simp[up,Er.v],.refl A,a6⟩
 simp only[go_sem,seval,decide_eq_false m2];refineλb3 gS=>?_;refine ag ?_;refine um (x:=50) (ms:=[10]) (vP hk aK aN 50 10) a2 gS λBM a3=>?_;by_cases m3:cl=50/\me=10
 ·have e:n.method id no h f.s cl me=n.declare id no f.s cl me:=by unfold N.method;rw[if_neg m1,if_neg m2,if_pos m3]
  simp only[go_sem,seval,decide_eq_true m3];refine dI acX (aaJ a3 M.w hc hh aK aN M.xE M.out ji (λnm q hq=>⟨(M.q nm q hq).1,Nat.le_trans (M.q nm q hq).2 an⟩)) ?_ (λch R h=>az _ _ _ _ ao (by rw[e];exact h));intro v R h;refine ag ?_;exact al aG ao (by rw[e];exact rW h (by simp[up]))
 simp only[go_sem,seval,decide_eq_false m3];refineλb4 yN=>?_;refine ag ?_;refine um (x:=50) (ms:=[30]) (vP hk aK aN 50 30) a3 yN λVt a4=>?_;by_cases m4:cl=50/\me=30
 ·have e:n.method id no h f.s cl me=n.lU id no f.s cl me:=by unfold N.method;rw[if_neg m1,if_neg m2,if_neg m3,if_pos m4]
  simp only[go_sem,seval,decide_eq_true m4];refine dI acY (alX a4 hc hh aK aN M.xE M.out (λnm q hq=>(M.q nm q hq).1)) ?_ (λch R h=>az _ _ _ _ ao (by rw[e];exact h));intro v R h;refine ag ?_;exact al aG ao (by rw[e];exact rW h (by simp[up]))
 simp only[go_sem,seval,decide_eq_false m4];refineλb5 jO=>?_;refine ag ?_;refine um (x:=60) (ms:=[10]) (vP hk aK aN 60 10) a4 jO λdz a5=>?_;by_cases m5:cl=60/\me=10
 ·have e:n.method id no h f.s cl me=n.ow id no f.s cl me:=by unfold N.method;rw[if_neg m1,if_neg m2,if_neg m3,if_neg m4,if_pos m5]
  simp only[go_sem,seval,decide_eq_true m5];refine iG nS a5 (oo (w:=2) a5.eN rfl an) (λk s1 R hr a1=>?_) (λhr s R a1=>az _ _ _ _ ao ?_)
  rotate_left
  ·have e2:n.ow id no f.s cl me=.bad cl me:=by unfold N.ow;rw[hr]
   rw[e,e2];exact⟨H,s,rfl,by rw[<-aK,<-aN];exact a1⟩
  refine ag ?_;refine qk a1 (λhs=>?_) (λhs=>az _ _ _ _ ao ?_)
  rotate_left
  ·have e2:n.ow id no f.s cl me=.bad cl me:=by
    unfold N.ow;rw[hr];simp only at hs;cases s1 with
    |nil=>exact absurd rfl hs
    |cons x l=>rfl
   rw[e,e2];exact⟨H,s1,rfl,by rw[<-aK,<-aN];exact a1⟩
  simp only at hs;subst hs;have e2:n.ow id no f.s cl me=.ok ((n.cf id no λr=>{r with nz:=k}).send id (cg no 60 11 [])) .nil:=by unfold N.ow;rw[hr]
  refine aH (a1.bV hh) ?_;have a2:=a1.xR hh λr=>{r with nz:=k};generalize hZ:Hp.set R (A.chan id no) _=cU;replace a2:=dT a2 hZ;have fi:(n.cf id no λr=>{r with nz:=(k:Int)}).h? id no=some {h with r:={h.r with nz:=k}}:=by simp[N.cf,hh]
  have dU:(n.cf id no λr=>{r with nz:=(k:Int)}).ar id=some {c with ch:=dw c.ch no λh=>{h with r:={h.r with nz:=k}}}:=by simp[N.cf,hc]
  refine bJ 9 ?_;refine aH (a2.bV fi) ?_;have eV:=M.xE;have fK:=M.out;refine aJ (pI (ch:=no) (cl:=60) (me:=11) (xs:=[]) a2 dU (.inl ⟨rfl,rfl⟩) ak ak aa an an (by simp[bZ]) (by show c.r.out.length<=_;omega)) ?_;rintro v gH ⟨hv,a5⟩
  cases hv
  have yS:((n.cf id no λr=>{r with nz:=(k:Int)}).send id (cg no 60 11 [])).h? id no=some {h with r:={h.r with nz:=(k:Int)}}:=by rw[pO];exact fi
  refine⟨by(repeat(first|exact jA|(apply jz;(focus decide+kernel))|(refine lf rfl (aP (a5.bV yS)) ?_))),?_⟩;refine ag ?_;refine al aG ao ?_;rw[e,e2];exact⟨A,H,0,_,by simp[up,Er.v],.refl A,a5⟩
 simp only[go_sem,seval,decide_eq_false m5];refineλb6 nV=>?_;refine ag ?_;refine um (x:=60) (ms:=[20]) (vP hk aK aN 60 20) a5 nV λrZ a6=>?_;by_cases m6:cl=60/\me=20
 ·have e:n.method id no h f.s cl me=n.consume id no h f.s cl me:=by unfold N.method;rw[if_neg m1,if_neg m2,if_neg m3,if_neg m4,if_neg m5,if_pos m6]
  simp only[go_sem,seval,decide_eq_true m6];refine dI acZ (aaq a6 M.w hc hh aK aN M.xE M.out M.co M.new M.aY (λnm q hq=>(M.q nm q hq).2)) ?_ (λch R h=>az _ _ _ _ ao (by rw[e];exact h));intro v R h;refine ag ?_;exact al aG ao (by rw[e];exact rW h (by simp[up]))
 simp only[go_sem,seval,decide_eq_false m6];refineλb7 CQ=>?_;refine ag ?_;refine um (x:=60) (ms:=[30]) (vP hk aK aN 60 30) a6 CQ λzN a7=>?_;by_cases m7:cl=60/\me=30
 ·have e:n.method id no h f.s cl me=n.mH id no h f.s cl me:=by unfold N.method;rw[if_neg m1,if_neg m2,if_neg m3,if_neg m4,if_neg m5,if_neg m6,if_pos m7]
  simp only[go_sem,seval,decide_eq_true m7];refine dI ac0 (Zu a7 hc hh aK aN M.xE M.out M.can ji) ?_ (λch R h=>az _ _ _ _ ao (by rw[e];exact h));intro v R h;refine ag ?_;exact al aG ao (by rw[e];exact rW h (by simp[up]))
 simp only[go_sem,seval,decide_eq_false m7];refineλb8 hb8=>?_;refine ag ?_;refine um (x:=60) (ms:=[40]) (vP hk aK aN 60 40) a7 hb8 λEY a8=>?_;by_cases m8:cl=60/\me=40
 ·have e:n.method id no h f.s cl me=n.ov id no f.s cl me:=by unfold N.method;rw[if_neg m1,if_neg m2,if_neg m3,if_neg m4,if_neg m5,if_neg m6,if_neg m7,if_pos m8]
  simp only[go_sem,seval,decide_eq_true m8];refine iG sA a8 (tq a8.eN rfl) (λk s1 R hr a1=>?_) (λhr s R a1=>az _ _ _ _ ao ?_)
  rotate_left
  ·have e2:n.ov id no f.s cl me=.bad cl me:=by unfold N.ov;rw[hr]
   rw[e,e2];exact⟨H,s,rfl,by rw[<-aK,<-aN];exact a1⟩
  refine ag ?_;refine qk a1 (λhs=>?_) (λhs=>az _ _ _ _ ao ?_)
  rotate_left
  ·have e2:n.ov id no f.s cl me=.bad cl me:=by
    unfold N.ov;rw[hr];simp only at hs;cases s1 with
    |nil=>exact absurd rfl hs
    |cons x l=>rfl
   rw[e,e2];exact⟨H,s1,rfl,by rw[<-aK,<-aN];exact a1⟩
  simp only at hs;subst hs;have e2:n.ov id no f.s cl me=.ok (n.cf id no λr=>{r with key:=k,want:=2}) .nil:=by unfold N.ov;rw[hr]
  refine aH (a1.bV hh) ?_;have a2:=a1.xR hh λr=>{r with key:=k,want:=2};refine al aG ao ?_;rw[e,e2];exact⟨A,H,0,_,by simp[up,Er.v],.refl A,dT a2 rfl⟩
 simp only[go_sem,seval,decide_eq_false m8];refineλb9 mN=>?_;refine ag ?_;refine um (x:=60) (ms:=[70]) (vP hk aK aN 60 70) a8 mN λσ9 a9=>?_;by_cases m9:cl=60/\me=70
 ·have e:n.method id no h f.s cl me=n.get id no f.s cl me:=by unfold N.method;rw[if_neg m1,if_neg m2,if_neg m3,if_neg m4,if_neg m5,if_neg m6,if_neg m7,if_neg m8,if_pos m9]
  simp only[go_sem,seval,decide_eq_true m9];obtain⟨fr,gU,f1,f2⟩:=M.frame;refine dI ac2 (acw a9 hc hh aK aN M.xE M.out gU ⟨f1,f2⟩ M.get) ?_ (λch R h=>az _ _ _ _ ao (by rw[e];exact h));intro v R h;refine ag ?_;exact al aG ao (by rw[e];exact rW h (by simp[up]))
 simp only[go_sem,seval,decide_eq_false m9];refineλb10 ad8=>?_;refine ag ?_;refine um (x:=60) (ms:=[80,90]) (ahs hk aK aN 60 80 90) a9 ad8 λatu yq=>?_;by_cases D4:cl=60/\(me=80\/me=90)
 ·have e:n.method id no h f.s cl me=n.settled id no h f.s cl me:=by unfold N.method;rw[if_neg m1,if_neg m2,if_neg m3,if_neg m4,if_neg m5,if_neg m6,if_neg m7,if_neg m8,if_neg m9,if_pos D4]
  simp only[go_sem,seval,decide_eq_true D4];refine dI ac3 (an1 yq hh aK aN M.settle) ?_ (λch R h=>az _ _ _ _ ao (by rw[e];exact h));intro v R h;refine ag ?_;exact al aG ao (by rw[e];exact rW h (by simp[up]))
 simp only[go_sem,seval,decide_eq_false D4];have Q3:=yq.eN;rw[aK,aN]at Q3;refine aH Q3 ?_;by_cases SE:cl=10
 ·have e:n.method id no h f.s cl me=.ok n (.cA 503 cl me):=by unfold N.method;rw[if_neg m1,if_neg m2,if_neg m3,if_neg m4,if_neg m5,if_neg m6,if_neg m7,if_neg m8,if_neg m9,if_neg D4,if_pos SE]
  have Lq:(cl:Int)=10:=aa;simp only[go_sem,seval,eq_true Lq,decide_true];refine aJ (jL (e:=503) yq aK aN) ?_;rintro v dv ⟨b,hv,a4⟩
  cases hv
  refine ag ?_;refine al aG ao ?_;rw[e];exact⟨A,H,b,_,by simp[up],.refl A,a4⟩
 have e:n.method id no h f.s cl me=.ok n (.cA 540 cl me):=by unfold N.method;rw[if_neg m1,if_neg m2,if_neg m3,if_neg m4,if_neg m5,if_neg m6,if_neg m7,if_neg m8,if_neg m9,if_neg D4,if_neg SE]
 have Lq:¬(cl:Int)=10:=aa;simp only[go_sem,seval,Lq,decide_false];refine aJ (jL (e:=540) yq aK aN) ?_;rintro v dv ⟨b,hv,a4⟩
 cases hv
 refine ag ?_;refine al aG ao ?_;rw[e];exact⟨A,H,b,_,by simp[up],.refl A,a4⟩
end
section
variable {E:Env prog}{H:Hid}{n:N}{X:Ext}{U:Hp}{no:Nat}{c:CN}{h:HN}{nm:List UInt8}{q:QN}{bf:Nat}{f:FR}{R:Hp}{k:Int}{x:XN}{r:HR}
variable {A:Lay}{id:Int}
def ym (n:N):Prop:=(0<=n.messages/\n.messages<=1000000000000)/\∀nm q,n.q? nm=some q->q.ready.length<=1000/\0<=q.held/\q.held<=1000000
def alV {key body:List UInt8}(a:aq A H n X U)(P:ym n):
 aw E 285 #[pV A.br,sV key,sV body] U λe R=>e=.returned (if(n.iS key body).2 then .nilIface else .iface 215 (iV 506))/\At A (n.iS key body).1 X R:=by
 obtain⟨rI,jh⟩:=P;obtain⟨l,k,h1,h2,h3⟩:=a.mq
 cases hq:n.q? key with
 |none=>
  have e:n.iS key body=(n,true):=by unfold N.iS;simp only[hq]
  have bt:=map_none h3 (k:=key) (λe he=>by obtain⟨y,hy,rfl⟩:=List.mem_map.1 he;exact iF hq y hy);refine aX func285 ntmps285 results285 λQ aB al az=>?_;refine aH a.tE ?_;refine jU (b:=A.mq) (k:=key) (l:=l) (c:=k) vT (z:=.pointer none) ah ?_ h1 ?_ ?_
  ·exact au
  ·exact au
  have dr:((dt l key).map (·.2.1)).getD (.pointer none)=.pointer none:=by rw[bt];rfl
  simp only[go_sem,seval,dr,Bool.false_eq_true];exact al aG ao ⟨by simp[up,e],by rw[e];exact⟨H,a⟩⟩
 |some q=>
 obtain⟨st,bt⟩:=rP h2 h3 (List.mem_map_of_mem (f:=λe:List UInt8×QN=>(e.1,pV (A.queue e.1))) (gI hq));obtain⟨q1,q2,q3⟩:=jh key q hq;by_cases hr:(q.ready.length:Int)+q.held>=n.cfg.queue
 ·have e:n.iS key body=(n,false):=by unfold N.iS;simp only[hq];rw[if_pos hr]
  obtain⟨b0,c0,gZ⟩:=(a.eQ hq).shape;have hf:=a.th hq;rw[gZ]at hf;have wl:IntKind.i64.wrap ((q.ready.length:Int)+q.held)=(q.ready.length:Int)+q.held:=wrap64 aa aa;refine aX func285 ntmps285 results285 λQ aB al az=>?_;refine aH a.tE ?_;refine jU (b:=A.mq) (k:=key) (l:=l) (c:=k) vT (z:=.pointer none) ah ?_ h1 ?_ ?_
  ·exact au
  ·exact au
  have dr:((dt l key).map (·.2.1)).getD (.pointer none)=pV (A.queue key):=by rw[bt];rfl
  simp only[go_sem,seval,dr,Bool.false_eq_true];refine bJ 15 ?_;simp only[go_sem,seval,hf,a.tE,wl,hr,decide_true];exact al aG ao ⟨by simp[up,e],by rw[e];exact⟨H,a⟩⟩
 ·have e:n.iS key body=(({n with messages:=n.messages+1}:N).bF key λq=>{q with ready:=q.ready++[⟨n.messages+1,key,body,false⟩]},true):=by unfold N.iS;simp only[hq];rw[if_neg hr]
  refine(alU (key:=key) (body:=body) a.br h1 bt (a.queue hq) (a.eQ hq) q1 ⟨q2,q3⟩ aa rI).mono ?_;rintro e' R ⟨rfl,iU,ab,o,dq,⟨z,rfl⟩,ho,hle⟩;refine⟨by rw[e];rfl,?_⟩;rw[e];have a1:=a.Up (n.messages+1) n.aY;obtain⟨k1,k2,k3⟩:=Oi ho ak
  have nbr:¬ab=A.br:=λe=>by subst e;rcases dq with h|⟨_,_,_,_,_,h⟩<;>(rw[a.br]at h;simp[ij]at h)
  have AV:({n with messages:=n.messages+1,aY:=n.aY}:N).q? key=some q:=hq;refine⟨H.jC key iU,((a1.Mk AV (λq=>{q with ready:=q.ready++[⟨n.messages+1,key,body,false⟩]}) rfl ?_ (o:=.cells z 193 (0,0)) (rv:=iU) k3 k2)).le hle⟩;rcases dq with h|⟨off,m,cc,z',e1,h⟩
  ·exact Hl.tC a1 (.eQ key) ((Hp.ay nbr).trans h)
  ·have Dm:kJ (H.rv key)=false:=by rw[e1];rfl
   have eb:pG (H.rv key)=ab:=by rw[e1];rfl
   have:=Hl.apart a1 (.eQ key) (by rw[T0 AV Dm];rfl);rw[<-eb];exact this
def apZ {g k:HR->HR}(hk:∀r,k (g r)=k r):(n.cf id no g).cf id no k=n.cf id no k:=by
 simp only[N.cf,N.bA,N.dn,dw,List.map_map];congr 1;refine List.map_congr_left λe _=>?_;simp only[Function.comp];by_cases h1:e.1=id
 ·simp only[if_pos h1,List.map_map];congr 2;refine List.map_congr_left λe' _=>?_;simp only[Function.comp];by_cases h2:e'.1=no
  ·simp only[if_pos h2,hk]
  ·simp only[if_neg h2]
 ·simp only[if_neg h1]
def Vc (a:aq A H (n.cf id no λ_=>r) ((bf,bN f)::X) U)(hc:n.ar id=some c)(hh:n.h? id no=some h)(aK:f.cl=((60:Nat):Int))(aN:f.me=((40:Nat):Int))(P:ym n):
 aw E 267 #[pV (A.chan id no),pV bf] U (iw A X n bf f (n.whole id no r)):=by
 refine aX func267 ntmps267 results267 λQ aB al az=>?_;have mR:(n.cf id no λ_=>r).h? id no=some {h with r:=r}:=by simp[N.cf,hh]
 refine ag ?_;refine bJ 10 ?_;by_cases hs:(r.body.length:Int)<r.size
 ·have e:n.whole id no r=.ok (n.cf id no λ_=>r) .nil:=by unfold N.whole;rw[if_pos hs]
  simp only[go_sem,seval,a.bV mR,hs,decide_true];refine al aG ao ?_;rw[e];exact⟨A,H,0,_,by simp[up,Er.v],.refl A,a⟩
 have e:n.whole id no r=.ok ((n.cf id no λ_=>{r with want:=1}).iS r.key r.body).1 (if((n.cf id no λ_=>{r with want:=1}).iS r.key r.body).2 then .nil else .soft 506 60 40):=by unfold N.whole;rw[if_neg hs]
 simp only[go_sem,seval,a.bV mR,hs,decide_false];have a2:=a.xR mR λ_=>{r with want:=1};rw[apZ (g:=λ_=>r) (k:=λ_=>{r with want:=1}) (λ_=>rfl)]at a2;generalize hZ:Hp.set U (A.chan id no) _=cU;replace a2:=dT a2 hZ;have fi:(n.cf id no λ_=>{r with want:=1}).h? id no=some {h with r:={r with want:=1}}:=by simp[N.cf,hh]
 have dU:(n.cf id no λ_=>{r with want:=1}).ar id=some {c with ch:=dw c.ch no λh=>{h with r:={r with want:=1}}}:=by simp[N.cf,hc]
 have P2:ym (n.cf id no λ_=>{r with want:=1}):=P;generalize hN:(n.cf id no λ_=>{r with want:=1})=n2 at a2 fi dU P2 e;refine bJ 20 ?_;refine bR (a2.bV fi) (a2.eC dU) a2.jM ?_;refine aJ (alV (key:=r.key) (body:=r.body) a2 P2) ?_;rintro v dv ⟨hv,H3,a3⟩
 cases hp:(n2.iS r.key r.body).2 with
 |true=>
  rw[hp]at hv e
  cases hv
  refine fL ?_;refine ag ?_;refine al aG ao ?_;rw[e];exact⟨A,H3,0,_,by simp[up,Er.v],.refl A,a3⟩
 |false=>
  rw[hp]at hv e
  cases hv
  refine fL ?_;refine ag ?_;refine aJ (wI (e:=506) a3 aK aN) ?_;rintro v gH ⟨b,hv,a4⟩
  cases hv
  refine ag ?_;refine al aG ao ?_;rw[e];exact⟨A,H3,b,_,by simp[up],.refl A,a4⟩
def alx (a:aq A H n ((bf,bN f)::X) U)(hc:n.ar id=some c)(hh:n.h? id no=some h)(aK:f.cl=((60:Nat):Int))(aN:f.me=((40:Nat):Int))(P:ym n)(hl:h.r.body.length+f.s.length<=1000000):
 aw E 245 #[pV (A.chan id no),pV bf] U (iw A X n bf f (n.part id no h.r f.s)):=by
 refine aX func245 ntmps245 results245 λQ aB al az=>?_;have l1:h.r.body.length+f.s.length<=9223372036854775807:=aa;refine ag ?_;refine bJ 13 ?_;refine bR (a.bV hh) a.eN l1 ?_;refine⟨by(repeat(first|exact jA|(apply jz;(focus decide+kernel))|(refine lf rfl (wL (a.bV hh) a.eN) ?_))),?_⟩;refine ag ?_;have a2:=a.xR hh λ_=>{h.r with body:=h.r.body++f.s};have a3:=a.xR hh λr=>{r with body:=r.body++f.s};generalize hZ:Hp.set U (A.chan id no) _=cU;replace a2:=dT a2 hZ;replace a3:=dT a3 hZ;have fi:(n.cf id no λ_=>{h.r with body:=h.r.body++f.s}).h? id no=some {h with r:={h.r with body:=h.r.body++f.s}}:=by simp[N.cf,hh]
 refine bJ 10 ?_;by_cases hs:((h.r.body++f.s).length:Int)>h.r.size
 ·have e:n.part id no h.r f.s=.ok (n.cf id no λr=>{r with body:=r.body++f.s}) (.cA 502 60 40):=by unfold N.part;rw[if_pos hs]
  simp only[go_sem,seval,a2.bV fi,hs,decide_true];refine aJ (jL (e:=502) a3 aK aN) ?_;rintro v gH ⟨b,hv,a4⟩
  cases hv
  refine ag ?_;refine al aG ao ?_;rw[e];exact⟨A,H,b,_,by simp[up],.refl A,a4⟩
 have e:n.part id no h.r f.s=n.whole id no {h.r with body:=h.r.body++f.s}:=by unfold N.part;rw[if_neg hs]
 simp only[go_sem,seval,a2.bV fi,hs,decide_false];refine dI P4 (Vc a2 hc hh aK aN P) ?_ (λch R h=>az _ _ _ _ ao (by rw[e];exact h));intro v R h;refine ag ?_;exact al aG ao (by rw[e];exact rW h (by simp[up]))
def aeB (a:aq A H n ((bf,bN f)::X) U)(hc:n.ar id=some c)(hh:n.h? id no=some h)(aK:f.cl=((60:Nat):Int))(aN:f.me=((40:Nat):Int))(P:ym n):
 aw E 244 #[pV (A.chan id no),pV bf] U (iw A X n bf f (n.header id no h.r f.s)):=by
 refine aX func244 ntmps244 results244 λQ aB al az=>?_
 have bad:∀{s:List UInt8} {R:Hp},n.header id no h.r f.s=.bad 60 40->aq A H n ((bf,bN {f with s:=s})::X) R->iw A X n bf f (n.header id no h.r f.s) (.panicked lH) R:=by intro s R e a1;rw[e];exact⟨H,s,rfl,by rw[<-aK,<-aN];exact a1⟩
 refine ag ?_;refine xW [0,1,2,4,5,6,8,9,10,12,13,14,3,7,11,15,16,17,18,19] (λch ds U=>ds=[]/\(iw A X n bf f (n.header id no h.r f.s)) (.panicked ch) U) ah kE (λch I ds U h=>by obtain⟨rfl,h⟩:=h;exact az _ _ _ _ ao h) ?_;refine ag ?_;refine iG nS a (oo (w:=2) a.eN rfl an) (λx1 s1 R eX a1=>?_) (λeX s R a1=>⟨rfl,bad (by unfold N.header;rw[eX]) a1⟩);refine fL ?_;refine ag ?_;refine iG nS a1 (oo (w:=2) a1.eN rfl an) (λx2 s2 cU bX a2=>?_) (λbX s R a2=>⟨rfl,bad (by unfold N.header;rw[eX];simp only at bX|-;rw[bX]) a2⟩);simp only at bX;refine fL ?_;refine ag ?_;refine iG nS a2 (oo (w:=4) a2.eN rfl an) (λx3 s3 dv ep a3=>?_) (λep s R a3=>⟨rfl,bad (by unfold N.header;rw[eX];simp only at ep|-;rw[bX];simp only;rw[ep]) a3⟩);simp only at ep;refine fL ?_;refine ag ?_;refine iG nS a3 (oo (w:=4) a3.eN rfl an) (λx4 s4 gH ua a4=>?_) (λua s R a4=>⟨rfl,bad (by unfold N.header;rw[eX];simp only at ua|-;rw[bX];simp only;rw[ep];simp only;rw[ua]) a4⟩);simp only at ua;refine fL ?_;refine ag ?_
 refine qk a4 (λhs=>?_) (λhs=>az _ _ _ _ ao (bad (s:=s4) (by
  unfold N.header;rw[eX];simp only;rw[bX];simp only;rw[ep];simp only;rw[ua]
  simp only at hs;cases s4 with
  |nil=>exact absurd rfl hs
  |cons x l=>rfl) a4))
 simp only at hs;subst hs;by_cases t1:x1≠60\/x2≠0
 ·have e:n.header id no h.r f.s=.ok n (.cA 502 60 40):=by unfold N.header;rw[eX];simp only;rw[bX];simp only;rw[ep];simp only;rw[ua];simp only;rw[if_pos t1]
  by_cases k1:(x1:Int)=60
  ·have k2:¬(x2:Int)=0:=aa;simp only[go_sem,seval,eq_true k1,k2,decide_true,decide_false];refine aJ (jL (e:=502) a4 aK aN) ?_;rintro v dA ⟨b,hv,a5⟩
   cases hv
   refine ag ?_;refine al aG ao ?_;rw[e];exact⟨A,H,b,_,by simp[up],.refl A,a5⟩
  ·simp only[go_sem,seval,k1,decide_true];refine aJ (jL (e:=502) a4 aK aN) ?_;rintro v dA ⟨b,hv,a5⟩
   cases hv
   refine ag ?_;refine al aG ao ?_;rw[e];exact⟨A,H,b,_,by simp[up],.refl A,a5⟩
 have k1:(x1:Int)=60:=aa;have k2:(x2:Int)=0:=aa;simp only[go_sem,seval,eq_true k1,eq_true k2,decide_true,decide_false];by_cases t2:x3>0\/(x4:Int)>n.cfg.body
 ·have e:n.header id no h.r f.s=.ok n (.soft 311 60 40):=by unfold N.header;rw[eX];simp only;rw[bX];simp only;rw[ep];simp only;rw[ua];simp only;rw[if_neg t1,if_pos t2]
  by_cases k3:(x3:Int)>0
  ·simp only[go_sem,seval,k3,decide_true];refine aJ (wI (e:=311) a4 aK aN) ?_;rintro v dA ⟨b,hv,a5⟩
   cases hv
   refine ag ?_;refine al aG ao ?_;rw[e];exact⟨A,H,b,_,by simp[up],.refl A,a5⟩
  ·have k4:(x4:Int)>n.cfg.body:=aa;simp only[go_sem,seval,k3,k4,a4.bV hh,a4.eC hc,a4.jM,decide_true,decide_false];refine aJ (wI (e:=311) a4 aK aN) ?_;rintro v dA ⟨b,hv,a5⟩
   cases hv
   refine ag ?_;refine al aG ao ?_;rw[e];exact⟨A,H,b,_,by simp[up],.refl A,a5⟩
 have k3:¬(x3:Int)>0:=aa;have k4:¬(x4:Int)>n.cfg.body:=aa;have e:n.header id no h.r f.s=n.whole id no {h.r with want:=3,size:=x4,body:=[]}:=by unfold N.header;rw[eX];simp only;rw[bX];simp only;rw[ep];simp only;rw[ua];simp only;rw[if_neg t1,if_neg t2]
 have FY:=a4.bV hh;simp only[go_sem,seval,k3,k4,FY,a4.eC hc,a4.jM,decide_true,decide_false];have a5:=a4.xR hh λ_=>{h.r with want:=3,size:=(x4:Int),body:=[]};rw[Hp.set_set,Hp.set_set];generalize hZ:Hp.set gH (A.chan id no) _=dA;replace a5:=dT a5 hZ;refine dI P4 (Vc a5 hc hh aK aN P) ?_ (λch R hx=>az _ _ _ _ ao ?_)
 ·intro v R hx;refine ag ?_;refine al aG ao ?_;rw[e]
  cases hw:n.whole id no {h.r with want:=3,size:=(x4:Int),body:=[]}<;>(rw[hw]at hx;exact rW hx (by simp[up]))
 ·rw[e]
  cases hw:n.whole id no {h.r with want:=3,size:=(x4:Int),body:=[]}<;>(rw[hw]at hx;exact hx)
end
end Go.Qw
