/- Part 28. -/
import Derived.Test.YtpiabknabfbfhaaGreatDoorFairly27
set_option linter.all false
set_option maxRecDepth 100000
set_option maxHeartbeats 8000000
namespace Go.Qw
open Go Go.Conc Go.Proofs Go.Proofs.Tryz
section
variable {E:Env prog}{H:Hid}{n:N}{X:Ext}{σ:Hp}{no:Nat}{c:CN}{h:HN}{nm:List UInt8}{q:QN}{bf:Nat}{f:FR}
variable {A:Lay}{id:Int}
def agd (d:Option TypeDesc):Array (String×TypeId):=match d with|some (.interface ms)=>ms|_=>#[]
def R2:∃ms,prog.underlying 45=some (.interface ms):=⟨agd (prog.underlying 45),ah⟩
def apg {s:List UInt8}{r:List UInt8×List UInt8}(h:jP s=some r):r.1.length<=s.length:=by have:=ak8 h;omega
def aak {cl me:Nat}(a:aq A H n ((bf,bN f)::X) σ)(w:Wf n)(hc:n.ar id=some c)(hh:n.h? id no=some h)(aM:f.cl=(cl:Int))(aP:f.me=(me:Int))(dY:no<1000000)(fN:c.r.out.length<=100000000000000)(jq:f.s.length<=1000000)
 (jf:∀nm q,n.q? nm=some q->q.ready.length<=1000/\q.cons.length<=1000000):
 ay E 268 #[pV (A.chan id no),pV bf] σ (iq A X n bf f (n.declare id no f.s cl me)):=by
 refine aW func268 ntmps268 results268 λQ aC an aA=>?_;refine ag ?_;refine iC sf a (s6 a.eJ rfl) (λnm rest τ hr a1=>?_) (λhr s τ a1=>aA _ _ _ _ ao ?_)
 rotate_left
 ·have e:n.declare id no f.s cl me=.bad cl me:=by unfold N.declare;rw[hr]
  rw[e];exact⟨H,s,rfl,by rw[<-aM,<-aP];exact a1⟩
 refine ag ?_;refine qe a1 (λhs=>?_) (λhs=>aA _ _ _ _ ao ?_)
 rotate_left
 ·have e:n.declare id no f.s cl me=.bad cl me:=by
   unfold N.declare;rw[hr];simp only at hs;cases rest with
   |nil=>exact absurd rfl hs
   |cons x l=>rfl
  rw[e];exact⟨H,rest,rfl,by rw[<-aM,<-aP];exact a1⟩
 simp only at hs;subst hs;have htl:nm.length<=1000000:=by have:=apg hr;simp only at this;omega
 have tail:∀{A1:Lay} {H1:Hid} {n1:N} {fy:Hp} {ρ:av} {q1:QN},aq A1 H1 n1 ((bf,bN {f with s:=[]})::X) fy->qa A A1->n1.h? id no=some h->n1.ar id=some c->n1.q? nm=some q1->q1.ready.length<=1000->q1.cons.length<=1000000->
  n.declare id no f.s cl me=.ok (n1.send id (ck no 50 11 [.text nm,.long q1.ready.length,.long q1.cons.length])) .nil->ρ 0=pV (A1.chan id no)->ρ 5=sV nm->ρ 6=pV (A1.queue nm)->
  cK E 60 (bM (aQ (aQ (aQ (aQ (aQ (f268.body.getD .skip))))))) (kX (cK E 60 (aQ (aQ (aQ (aQ (aQ (aQ (f268.body.getD .skip))))))) Q) Q) ρ [] fy:=by
  intro A1 H1 n1 fy ρ q1 a2 hk eY dP gD AU CS e h0 h5 h6;simp only[f268,Option.getD_some,aQ,bM];obtain⟨rb,rc,gT⟩:=(a2.eP gD).shape;obtain⟨cb,cc,kO,_⟩:=(show Sl 186 fy ((q1.cons.map A1.cons).map pV) _ by rw[List.map_map];exact a2.hU gD).read;simp only[List.length_map]at kO;have mf:=a2.queue gD;rw[gT,kO]at mf;refine Al [0,1,2,3,4,5,6,7,8,9,10,13,11,12,14,15,16,17] ?_;refine fB h0 h5 h6 (a2.bW eY) ?_;refine aR (L6 mf) ?_;refine⟨by(repeat(first|exact js|(apply jr;(focus decide+kernel))|(refine kS rfl (aK (a2.bW eY)) ?_))),?_⟩;refine ag ?_;refine aR (OQ mf) ?_;refine⟨by(repeat(first|exact js|(apply jr;(focus decide+kernel))|(refine kS rfl (aK (a2.bW eY)) ?_))),?_⟩;refine ag ?_;refineλbn cz=>?_;have a3:=λo=>a2.fresh cz o;have f3:=λo=>(a3 o).bW eY;refine⟨dG f3,?_⟩;refine ag ?_;refine aL (px (ch:=no) (cl:=50) (me:=11) (xs:=[.text nm,.long q1.ready.length,.long q1.cons.length]) (a3 _) dP (.inr ⟨bn,rfl,aY⟩) ?_ al aa ai ai ?_ aa) ?_
  ·simp[kH];omega
  ·simp[cW,ep,bV];omega
  rintro v fH ⟨hv,a4⟩
  cases hv
  have f4:=a4.bW (h:=h) (by rw[pE];exact eY);refine⟨kg4 h0 h5 h6 f4,?_⟩;refine ag ?_;refine an aI ao ?_;rw[e];exact⟨A1,H1,0,_,by simp[up,Er.v],hk,a4⟩
 refine bO (a1.bW hh) (a1.eu hc) a1.jH ?_;refine dC acB (aaj a1 w) ?_ (λch ae h=>by rcases h with⟨_,_,h,_⟩|⟨_,_,h,_⟩|⟨_,_,_,h,_⟩|⟨_,_,_,_,_,h,_⟩<;>cases h);rintro v cM (⟨q,hq,hv,rfl⟩|⟨hq,jo,hv,a2⟩|⟨hq,jo,Kd,hv,a2⟩|⟨hq,jo,Kd,b,H2,hv,a2⟩)
 ·cases hv
  obtain⟨l1,l2⟩:=jf nm q hq;refine ag ?_;refine tail a1 (.refl A) hh hc hq l1 l2 (by unfold N.declare;rw[hr];simp only[hq]) ?_ ?_ ?_<;>exact au
 ·cases hv
  have e:n.declare id no f.s cl me=.ok n (.cH 502 cl me):=by unfold N.declare;rw[hr];simp only[hq,jo,if_true]
  refine ag ?_;refine Pg (d:=215) (i:=502) (j:=502) (k:=.i64) (inf:=t215) R2 ah ah ah ?_ ?_ ?_
  ·exact au
  ·exact au
  simp only[go_sem,seval,decide_true];refine aL (jF (e:=502) a2 aM aP) ?_;rintro v dv ⟨b,hv,a3⟩
  cases hv
  refine ag ?_;refine an aI ao ?_;rw[e];exact⟨A,H,b,_,by simp[up],.refl A,a3⟩
 ·cases hv
  have e:n.declare id no f.s cl me=.ok n (.soft 506 cl me):=by unfold N.declare;rw[hr];simp only[hq,jo,Kd];rfl
  refine ag ?_;refine Pg (d:=215) (i:=506) (j:=502) (k:=.i64) (inf:=t215) R2 ah ah ah ?_ ?_ ?_
  ·exact au
  ·exact au
  refine ag ?_;refine aL (wD (e:=506) a2 aM aP) ?_;rintro v dv ⟨b,hv,a3⟩
  cases hv
  refine ag ?_;refine an aI ao ?_;rw[e];exact⟨A,H,b,_,by simp[up],.refl A,a3⟩
 ·cases hv
  have e:n.declare id no f.s cl me=.ok (({n with aN:=cV cL n.aN nm ⟨[],0,0,[]⟩}:N).send id (ck no 50 11 [.text nm,.long 0,.long 0])) .nil:=by unfold N.declare;rw[hr];simp only[hq,jo];rw[if_neg al,if_neg Kd]
  refine ag ?_;refine tail (A1:=A.sZ nm b) (q1:=⟨[],0,0,[]⟩) a2 ⟨rfl,rfl,rfl⟩ hh hc ?_ al al e ?_ ?_ ?_
  ·show bu (cV cL n.aN nm ⟨[],0,0,[]⟩) nm=_;rw[yn _ _ _ _ hq,if_pos rfl]
  ·exact au
  ·exact au
  ·simp only[go_sem,seval,Lay.sZ]
end
section
variable {H:Hid}{n:N}{X:Ext}{σ:Hp}{no:Nat}{h:HN}{q:QN}{k:Int}{x:XN}
variable {A:Lay}
def aq.aa6 (a:aq A H n ((A.cons k,kJ (A.chan x.id x.no) k x.tag (A.queue x.q) x.fe)::X) σ)(hk:n.x? k=none):aq A H {n with xs:=n.xs++[(k,x)]} X σ:=by
 have RR:∀i,N.x? {n with xs:=n.xs++[(k,x)]} i=if i=k then some x else n.x? i:=by
  intro i;unfold N.x? bu;simp only[List.find?_append,List.find?_cons,List.find?_nil];by_cases e:i=k
  ·subst e;have:(n.xs.find? λe=>decide (e.1=i))=none:=by unfold N.x? bu at hk;simpa using hk
   simp[this]
  ·have e2:¬k=i:=λz=>e z.symm;simp[e2,e]
 have key:∀r,∃r',view {n with xs:=n.xs++[(k,x)]} A H X r=view n A H ((A.cons k,kJ (A.chan x.id x.no) k x.tag (A.queue x.q) x.fe)::X) r'/\cD A H X r=cD A H ((A.cons k,kJ (A.chan x.id x.no) k x.tag (A.queue x.q) x.fe)::X) r'/\
  ((r=.cons k/\r'=.ext 0)\/(∃i,r=.ext i/\r'=.ext (i+1))\/(r'=r/\(∀i,r≠.ext i)/\r≠.cons k)):=by
  intro r;by_cases e1:r=.cons k
  ·exact⟨.ext 0,by subst e1;simp[view,RR],by subst e1;simp[cD],.inl ⟨e1,rfl⟩⟩
  ·by_cases e2:∃i,r=.ext i
   ·obtain⟨i,rfl⟩:=e2;exact⟨.ext (i+1),by simp[view],by simp[cD],.inr (.inl ⟨i,rfl,rfl⟩)⟩
   ·refine⟨r,?_,?_,.inr (.inr ⟨rfl,λi h=>e2 ⟨i,h⟩,e1⟩)⟩
    ·cases r<;>first|rfl|exact absurd ⟨_,rfl⟩ e2|skip
     rename_i j;have:¬j=k:=λh=>e1 (by rw[h]);simp[view,RR,this]
    ·cases r<;>first|rfl|exact absurd ⟨_,rfl⟩ e2
 refine⟨λr v hv=>?_,λr s hr hs e=>?_⟩
 ·obtain⟨r',h1,h2,_⟩:=key r;rw[h2];exact a.has r' v (by rw[<-h1];exact hv)
 ·obtain⟨r',h1,h2,h3⟩:=key r;obtain⟨s',g1,g2,g3⟩:=key s;have h:=a.inj r' s' (by rw[<-h1];exact hr) (by rw[<-g1];exact hs) (by rw[<-h2,<-g2];exact e);rcases h3 with⟨rfl,rfl⟩|⟨i,rfl,rfl⟩|⟨rfl,f1,f2⟩<;>rcases g3 with⟨rfl,rfl⟩|⟨j,rfl,rfl⟩|⟨rfl,k1,k2⟩
  ·rfl
  ·cases h
  ·exact absurd h.symm (k1 _)
  ·cases h
  ·cases h;rfl
  ·exact absurd h.symm (k1 _)
  ·exact absurd h (f1 _)
  ·exact absurd h (f1 _)
  ·exact h
end
section
variable {E:Env prog}{H:Hid}{n:N}{X:Ext}{σ:Hp}{no:Nat}{c:CN}{h:HN}{nm:List UInt8}{q:QN}{bf:Nat}{f:FR}{A':Lay}{τ:Hp}{k:Int}{x:XN}
variable {A:Lay}{id:Int}
def Z2 {cl me:Nat}(a:aq A H n ((bf,bN f)::X) σ)(w:Wf n)(hc:n.ar id=some c)(hh:n.h? id no=some h)(aM:f.cl=(cl:Int))(aP:f.me=(me:Int))(dY:no<1000000)(fN:c.r.out.length<=100000000000000)(arE:h.co.length<=4)
 (iF:n.x? (n.bh+1)=none) (b1:0<=n.bh/\n.bh<=1000000000000) (jf:∀nm q,n.q? nm=some q->q.cons.length<=1000):
 ay E 270 #[pV (A.chan id no),pV bf] σ (iq A X n bf f (n.consume id no h f.s cl me)):=by
 refine aW func270 ntmps270 results270 λQ aC an aA=>?_;refine ag ?_;refine xU [0,1,2,4,5,6,8,9,10,3,7,11,12,13,14] (λch ds σ=>ds=[]/\(iq A X n bf f (n.consume id no h f.s cl me)) (.panicked ch) σ) ah ir (λch ρ ds σ h=>by obtain⟨rfl,h⟩:=h;exact aA _ _ _ _ ao h) ?_;refine ag ?_;refine iC sf a (s6 a.eJ rfl) (λnm s1 τ hr a1=>?_) (λhr s τ a1=>⟨rfl,?_⟩)
 rotate_left
 ·have e:n.consume id no h f.s cl me=.bad cl me:=by unfold N.consume;rw[hr]
  rw[e];exact⟨H,s,rfl,by rw[<-aM,<-aP];exact a1⟩
 refine fO ?_;refine ag ?_;refine iC sf a1 (s6 a1.eJ rfl) (λtg s2 fy bY a2=>?_) (λbY s τ a2=>⟨rfl,?_⟩)
 rotate_left
 ·have e:n.consume id no h f.s cl me=.bad cl me:=by unfold N.consume;rw[hr];simp only[bY]
  rw[e];exact⟨H,s,rfl,by rw[<-aM,<-aP];exact a2⟩
 simp only at bY;refine fO ?_;refine ag ?_;refine iC Ja a2 (I0 a2.eJ rfl) (λna s3 cM eg a3=>?_) (λeg s τ a3=>⟨rfl,?_⟩)
 rotate_left
 ·have e:n.consume id no h f.s cl me=.bad cl me:=by unfold N.consume;rw[hr];simp only[bY,eg]
  rw[e];exact⟨H,s,rfl,by rw[<-aM,<-aP];exact a3⟩
 simp only at eg;refine fO ?_;refine ag ?_;refine qe a3 (λhs=>?_) (λhs=>aA _ _ _ _ ao ?_)
 rotate_left
 ·have e:n.consume id no h f.s cl me=.bad cl me:=by
   unfold N.consume;rw[hr];simp only[bY,eg];simp only at hs;cases s3 with
   |nil=>exact absurd rfl hs
   |cons x l=>rfl
  rw[e];exact⟨H,s3,rfl,by rw[<-aM,<-aP];exact a3⟩
 simp only at hs;subst hs;by_cases t1:tg.length<1
 ·have Ht:(tg.length:Int)<1:=aa;have e:n.consume id no h f.s cl me=.ok n (.cH 502 cl me):=by unfold N.consume;rw[hr];simp only[bY,eg];rw[if_pos (.inl t1)]
  simp only[go_sem,seval,Ht,decide_true];refine aL (jF (e:=502) a3 aM aP) ?_;rintro v dv ⟨b,hv,a4⟩
  cases hv
  refine ag ?_;refine an aI ao ?_;rw[e];exact⟨A,H,b,_,by simp[up],.refl A,a4⟩
 have Ht:¬(tg.length:Int)<1:=aa;by_cases t2:tg.length>8
 ·have My:(tg.length:Int)>8:=aa;have e:n.consume id no h f.s cl me=.ok n (.cH 502 cl me):=by unfold N.consume;rw[hr];simp only[bY,eg];rw[if_pos (.inr t2)]
  simp only[go_sem,seval,Ht,My,decide_true,decide_false];refine aL (jF (e:=502) a3 aM aP) ?_;rintro v dv ⟨b,hv,a4⟩
  cases hv
  refine ag ?_;refine an aI ao ?_;rw[e];exact⟨A,H,b,_,by simp[up],.refl A,a4⟩
 have My:¬(tg.length:Int)>8:=aa;have Gv:¬(tg.length<1\/tg.length>8):=aa;simp only[go_sem,seval,Ht,My,decide_false,a3.bW hh,a3.eu hc,a3.jH]
 cases hq:n.q? nm with
 |none=>
  have e:n.consume id no h f.s cl me=.ok n (.soft 404 cl me):=by unfold N.consume;rw[hr];simp only[bY,eg];rw[if_neg Gv];simp only[hq]
  refine aR (IY a3 hq) ?_;refine ag ?_;refine aL (wD (e:=404) a3 aM aP) ?_;rintro v dv ⟨b,hv,a4⟩
  cases hv
  refine ag ?_;refine an aI ao ?_;rw[e];exact⟨A,H,b,_,by simp[up],.refl A,a4⟩
 |some q=>
 refine aR (IZ a3 hq) ?_;obtain⟨lc,kc,o1,o2,o3⟩:=a3.co hh;have AP:lc.length=h.co.length:=by have:=o3.length_eq;simpa using this
 refine aG (a3.bW hh) ?_;refine jM (b:=A.co id no) (k:=tg) (l:=lc) (c:=kc) zg (z:=.pointer none) ah ?_ o1 ?_ ?_
 ·exact au
 ·exact au
 rw[if_neg Bool.false_ne_true]
 cases hg:bu h.co tg with
 |some k=>
  have e:n.consume id no h f.s cl me=.ok n (.cH 530 cl me):=by unfold N.consume;rw[hr];simp only[bY,eg];rw[if_neg Gv];simp only[hq,hg];rfl
  obtain⟨st,bw⟩:=rE o2 o3 (List.mem_map_of_mem (f:=λe:List UInt8×Int=>(e.1,pV (A.cons e.2))) (iJ hg));have dk:((dn lc tg).map (·.2.1)).getD (.pointer none)=pV (A.cons k):=by rw[bw];rfl
  rw[dk];refine ag ?_;refine aL (jF (e:=530) a3 aM aP) ?_;rintro v dv ⟨b,hv,a4⟩
  cases hv
  refine ag ?_;refine an aI ao ?_;rw[e];exact⟨A,H,b,_,by simp[up],.refl A,a4⟩
 |none=>
 have Dd:∀e∈(h.co.map λe=>(e.1,pV (A.cons e.2))),e.1≠tg:=λe he=>by obtain⟨y,hy,rfl⟩:=List.mem_map.1 he;exact iK hg y hy
 have dk:((dn lc tg).map (·.2.1)).getD (.pointer none)=.pointer none:=by rw[map_none o3 Dd];rfl
 rw[dk];refine aG (a3.bW hh) ?_;refine GS zg ?_ o1 ?_
 ·exact au
 by_cases h4:h.co.length=4
 ·have sm:(lc.length:Int)=4:=aa;have e:n.consume id no h f.s cl me=.ok n (.soft 506 cl me):=by unfold N.consume;rw[hr];simp only[bY,eg];rw[if_neg Gv];simp only[hq,hg,h4];rfl
  simp only[go_sem,seval,eq_true sm,decide_true];refine aL (wD (e:=506) a3 aM aP) ?_;rintro v dv ⟨b,hv,a4⟩
  cases hv
  refine ag ?_;refine an aI ao ?_;rw[e];exact⟨A,H,b,_,by simp[up],.refl A,a4⟩
 have sm:¬(lc.length:Int)=4:=aa;have e:n.consume id no h f.s cl me=.ok ((n.ki id no nm tg na).send id (ck no 60 21 [.text tg])) .nil:=by unfold N.consume;rw[hr];simp only[bY,eg];rw[if_neg Gv];simp only[hq,hg];rw[if_neg al,if_neg h4]
 simp only[go_sem,seval,sm,decide_false];refineλcb l7=>?_;have Il:M6 n A (A.BA (n.bh+1) cb) H H:=⟨rfl,rfl,rfl,rfl,rfl,λ_ _=>⟨rfl,rfl⟩,λ_ _ _=>⟨rfl,rfl,rfl⟩,λ_ _=>⟨rfl,rfl,rfl⟩,λj hj=>by simp[Lay.BA,Ml (f:=n.x?) iF hj]⟩;have a4:=a3.He w Il
 have QI:(h.co.map λe=>(e.1,pV ((A.BA (n.bh+1) cb).cons e.2)))=h.co.map λe=>(e.1,pV (A.cons e.2)):=List.map_congr_left λe he=>by obtain⟨x,hx,_⟩:=w.co id no h hh e he;rw[Il.cons e.2 (by rw[hx];rfl)]
 have FN:(A.BA (n.bh+1) cb).cons (n.bh+1)=cb:=by simp[Lay.BA]
 generalize hA:A.BA (n.bh+1) cb=A' at a4 QI FN Il;have eA:A'.chan=A.chan/\A'.conn=A.conn/\A'.co=A.co/\A'.queue=A.queue/\A'.br=A.br/\A'.gw=A.gw:=by rw[<-hA];exact⟨rfl,rfl,rfl,rfl,rfl,rfl⟩
 obtain⟨wP,yx,Ao,Fs,Cj,Pa⟩:=eA;have a5:=λo=>a4.iH l7 o;have f5:=λo=>(a5 o).bW hh;simp only[wP,yx,Ao]at f5;refine aG f5 ?_;refine Ba (b:=A.co id no) (k:=tg) zg o2.uniq ?_ (jZ l7 _ _ o1) ?_ ?_
 ·exact au
 ·exact au
 obtain⟨d1,d2⟩:=D1 o2 o3 Dd (pV cb)
 have a6:=λo=>(a5 o).Md hh (λh=>{h with co:=cV cL h.co tg (n.bh+1)}) rfl rfl (o:=aU bR (ji lc tg (pV cb) kc) (ju lc tg kc)) ⟨_,_,rfl,d1,by
  refine d2.trans (List.Perm.symm ?_)
  refine((uU (lt:=cL) h.co tg (n.bh+1)).map _).trans ?_
  simp only[List.map_cons,FN,QI]
  exact List.Perm.refl _⟩
 have ib:(n.bB id no λh=>{h with co:=cV cL h.co tg (n.bh+1)}).ar id=some {c with ch:=dz c.ch no λh=>{h with co:=cV cL h.co tg (n.bh+1)}}:=by simp[hc]
 have oL:(n.bB id no λh=>{h with co:=cV cL h.co tg (n.bh+1)}).h? id no=some {h with co:=cV cL h.co tg (n.bh+1)}:=by simp[hh]
 have tP:(n.bB id no λh=>{h with co:=cV cL h.co tg (n.bh+1)}).q? nm=some q:=hq;generalize hN:(n.bB id no λh=>{h with co:=cV cL h.co tg (n.bh+1)})=n6 at a6 ib oL tP;have f6:=λo=>(a6 o).bW oL;have g6:=λo=>(a6 o).eu ib;have w6:=λo=>(a6 o).jH;simp only[wP,yx,Ao,Cj,Pa]at f6 g6 w6;refine bO f6 g6 w6 ?_;have adX:q.cons.length<=1000:=jf nm q hq;generalize jX:Hp.set (Hp.set cM cb _) (A.co id no) _=wH
 have b6:aq A' H n6 ((cb,kJ (A'.chan id no) 0 tg (A'.queue nm) na)::(bf,bN {f with s:=[]})::X) wH:=by refine dO (a6 (kJ (A'.chan id no) 0 tg (A'.queue nm) na)) ?_;rw[<-jX,wP,Ao,Fs];rfl
 have emap:(q.cons.map λk=>pV (A'.cons k))=(q.cons.map A'.cons).map pV:=by rw[List.map_map];rfl
 have jq:=b6.hU tP;rw[emap]at jq;have qw:=b6.br;rw[Cj]at qw;have tT:=b6.eC;have qG:=b6.queue tP;rw[Fs]at qG;simp only[wP,Fs]at tT;refine aL (Z1 qw tT qG jq (aZ adX) (by rw[<-hN];exact b1)) ?_;rintro v pc ⟨hv,ab,pad,di,aeS⟩
 cases hv
 have a8:=(b6.Ui n6.messages (n6.bh+1)).uD (kJ (A'.chan id no) (n6.bh+1) tg (A'.queue nm) na)
 have SW:∀{x o},wH.f x=some o->(∀z,o≠.cells z 186 (0,0))->¬ab=x:=by
  intro x o hx hz e;subst e;rcases di with di|⟨c',di⟩
  ·rw[hx]at di;cases di
  ·rcases jq.form with⟨_,h2⟩|⟨a',ala,h2,h3⟩
   ·rw[di]at h2;cases h2
   ·rw[di]at h2;simp only[Value.slice.injEq,Option.some.injEq,Addr.mk.injEq]at h2;rw[h2.1.1,h3]at hx;exact hz _ (Option.some.inj hx).symm
 have n8:({n6 with messages:=n6.messages,bh:=n6.bh+1}:N).q? nm=some q:=tP
 have a9:=a8.Uj (nm:=nm) n8 (b:=ab) (λq=>{q with cons:=q.cons++[n.bh+1]}) rfl
  (by
   rcases di with di|⟨c',di⟩
   ·refine Hl.tk a8 _ ?_
    rw[Hp.az (SW tT (by simp[kJ])),Hp.az (by rw[Cj];exact SW qw (by simp[gZ]))];exact di
   ·have Dg:kC (H.cv nm)=false:=by rw[di];rfl
    have eb:po (H.cv nm)=ab:=by rw[di];rfl
    have:=Hl.apart a8 (.hU nm) (by rw[OV n8 Dg];rfl)
    rw[<-eb];exact this)
  (cv:=.slice (some ⟨ab,0,none⟩) ((q.cons.map A'.cons).length+1) ((q.cons.map A'.cons).length+1+pad.length)) (o:=.cells ((q.cons.map A'.cons).map pV++[pV cb]++pad).toArray 186 (0,0))
  ⟨ab,pad,al,by simp only[List.map_append,List.map_cons,List.map_nil,FN,emap]⟩ rfl
 have ym:=a9.le (τ:=pc) (by rw[Cj,wP,Fs];exact aeS)
 have Ib:aq A' (H.oZ nm (.slice (some ⟨ab,0,none⟩) ((q.cons.map A'.cons).length+1) ((q.cons.map A'.cons).length+1+pad.length))) (n.ki id no nm tg na) ((bf,bN {f with s:=[]})::X) pc:=by
  have en:n6.bh=n.bh:=by rw[<-hN];rfl
  rw[en]at ym
  have:=aq.aa6 (A:=A') (k:=n.bh+1) (x:=⟨id,no,tg,nm,na⟩) (by rw[FN];exact ym) (by
   show n6.x? (n.bh+1)=none
   rw[<-hN];exact iF)
  rw[<-hN]at this;exact this
 have JY:(n.ki id no nm tg na).h? id no=some {h with co:=cV cL h.co tg (n.bh+1)}:=by rw[<-hN]at oL;exact oL
 have adR:(n.ki id no nm tg na).ar id=some {c with ch:=dz c.ch no λh=>{h with co:=cV cL h.co tg (n.bh+1)}}:=by rw[<-hN]at ib;exact ib
 have f11:=Ib.bW JY;simp only[wP,yx,Ao]at f11;refine ag ?_;refine bG 12 ?_;refine aG f11 ?_;refineλbn cz=>?_;have f12:=λo=>(Ib.fresh cz o).bW JY;simp only[wP,yx,Ao]at f12;refine⟨dG f12,?_⟩;refine ag ?_;have QF:=λo=>px (E:=E) (ch:=no) (cl:=60) (me:=21) (xs:=[.text tg]) (Ib.fresh cz o) adR (v:=.slice (some ⟨bn,0,none⟩) 1 1);rw[yx]at QF;refine aL (QF _ (.inr ⟨bn,rfl,aY⟩) (by simp[kH]) al aa ai ai (by simp[cW,ep,bV];omega) (by simp only;omega)) ?_;rintro v as9 ⟨hv,Nt⟩
 cases hv
 have f13:=Nt.bW (h:={h with co:=cV cL h.co tg (n.bh+1)}) (by rw[pE];exact JY);simp only[wP,yx,Ao]at f13;refine⟨dG f13,?_⟩;refine ag ?_;refine an aI ao ?_;rw[e];exact⟨A',_,0,_,by simp[up,Er.v],⟨Pa,Cj,yx⟩,Nt⟩
end
section
variable {E:Env prog}{H:Hid}{n:N}{X:Ext}{σ:Hp}{no:Nat}{c:CN}{h:HN}{nm:List UInt8}{q:QN}{bf:Nat}{f:FR}{τ:Hp}{k:Int}{x:XN}
variable {A:Lay}{id:Int}
def vJ {cl me:Nat}(hk:f.u.kind=1)(aM:f.cl=(cl:Int))(aP:f.me=(me:Int))(x y:Nat):f.kQ (x:Int) [(y:Int)]=decide (cl=x/\me=y):=by simp only[FR.kQ,hk,aM,aP,decide_true,Bool.true_and,List.mem_singleton];by_cases h1:cl=x<;>by_cases h2:me=y<;>simp[h1,h2]<;>omega
def ag8 {cl me:Nat}(hk:f.u.kind=1)(aM:f.cl=(cl:Int))(aP:f.me=(me:Int))(x y z:Nat):f.kQ (x:Int) [(y:Int),(z:Int)]=decide (cl=x/\(me=y\/me=z)):=by simp only[FR.kQ,hk,aM,aP,decide_true,Bool.true_and,List.mem_cons,List.not_mem_nil,or_false];by_cases h1:cl=x<;>by_cases h2:me=y<;>by_cases h3:me=z<;>simp[h1,h2,h3]<;>omega
def tY {x:Int}{ms:List Int}{p:Prop}[Decidable p]{b cap:Nat}{o:Obj}{dst:Option Tmp}{ρ:av}{ds:List Deferred}{nx:av->List Deferred->Hp->Prop}{pn:List PanicEntry->Hp->Prop}(i:f.kQ x ms=decide p)(a:aq A H n ((bf,bN f)::X) σ)(hb:σ.f b=none)
 (k:∀ae,aq A H n ((bf,bN f)::X) ae->nx (aB ρ dst (.bool (decide p))) ds ae) (ho:o=.cells (ms.map iV++[]).toArray 3 (0,0):=by rfl) (hn:ms.length<=1000:=by decide):jR E 193 #[pV bf,iV x,.slice (some ⟨b,0,none⟩) ms.length cap] (σ.set b o) dst ρ ds nx pn:=by
 subst ho;refine aR (tX (pad:=[]) (a.fresh hb _).eC aY hn) ?_;rw[i];exact k _ (a.fresh hb _)
def rN {R:Fin->Hp->Prop}{x y:Fin}{τ:Hp}(h:R x τ)(e:y=x):R y τ:=e▸h
def Pu (a:aq A H n ((bf,bN f)::X) σ):ay E 230 #[pV bf] σ λe τ=>(sU f.s=some []/\e=.returned (.tuple #[])/\aq A H n ((bf,bN {f with s:=[]})::X) τ)\/(sU f.s≠some []/\e=.panicked lr/\∃s,aq A H n ((bf,bN {f with s:=s})::X) τ):=by
 refine aW func230 ntmps230 results230 λQ aC an aA=>?_;refine ag ?_;refine iC nM a (ob (w:=2) a.eJ rfl ai) (λk s1 τ hr a1=>?_) (λhr s τ a1=>aA _ _ _ _ ao (.inr ⟨by unfold sU;rw[hr];simp,rfl,s,a1⟩));refine ag ?_;refine iC sf a1 (s6 a1.eJ rfl) (λtx s2 τ bY a2=>?_) (λbY s τ a2=>aA _ _ _ _ ao (.inr ⟨by unfold sU;rw[hr];simp only at bY|-;rw[bY];simp,rfl,s,a2⟩));simp only at bY;refine ag ?_;refine iC nM a2 (ob (w:=4) a2.eJ rfl ai) (λk3 s3 τ eg a3=>?_) (λeg s τ a3=>aA _ _ _ _ ao (.inr ⟨by unfold sU;rw[hr];simp only at eg|-;rw[bY];simp only;rw[eg];simp,rfl,s,a3⟩));simp only at eg;have e:sU f.s=some s3:=by unfold sU;rw[hr];simp only;rw[bY];simp only;rw[eg]
 refine ag ?_;refine qe a3 (λhs=>?_) (λhs=>aA _ _ _ _ ao (.inr ⟨by rw[e];simpa using hs,rfl,s3,a3⟩));simp only at hs;subst hs;refine ag ?_;exact aC du ao (.inl ⟨e,by simp[up],a3⟩)
structure H8 (n:N) (id:Int) (no:Nat) (c:CN) (h:HN):Prop where
 w:Wf n
 xA:no<1000000
 out:c.r.out.length<=100000000000000
 co:h.co.length<=4
 new:n.x? (n.bh+1)=none
 bh:0<=n.bh/\n.bh<=1000000000000
 q:∀nm q,n.q? nm=some q->q.ready.length<=1000/\q.cons.length<=1000
 can:∀tg k,bu h.co tg=some k->EU n k
 frame:∃fr:Nat,c.r.frame=(fr:Int)/\9<=fr/\fr<=1000000
 get:H0 n h
 settle:∀tag many b,HX n id no h (sJ tag many) b
 fin:yc (n.send id (ck no 20 41 [])) id no h
def ai5 {cl me:Nat}(a:aq A H n ((bf,bN f)::X) σ)(M:H8 n id no c h)(hc:n.ar id=some c)(hh:n.h? id no=some h)(hk:f.u.kind=1)(aM:f.cl=(cl:Int))(aP:f.me=(me:Int))(jq:f.s.length<=1000000):
 ay E 246 #[pV (A.chan id no),pV bf] σ (iq A X n bf f (n.method id no h f.s cl me)):=by
 refine aW func246 ntmps246 results246 λQ aC an aA=>?_;refine ag ?_;refineλb1 iM=>?_;refine ag ?_;refine tY (x:=20) (ms:=[10]) (vJ hk aM aP 20 10) a iM λcZ a1=>?_;by_cases m1:cl=20/\me=10
 ·have e:n.method id no h f.s cl me=.ok n (.cH 504 cl me):=by unfold N.method;rw[if_pos m1]
  simp only[go_sem,seval,decide_eq_true m1];refine aL (jF (e:=504) a1 aM aP) ?_;rintro v dv ⟨b,hv,a4⟩
  cases hv
  refine ag ?_;refine an aI ao ?_;rw[e];exact⟨A,H,b,_,by simp[up],.refl A,a4⟩
 simp only[go_sem,seval,decide_eq_false m1];refineλb2 eQ=>?_;refine ag ?_;refine tY (x:=20) (ms:=[40]) (vJ hk aM aP 20 40) a1 eQ λiZ a2=>?_;by_cases m2:cl=20/\me=40
 ·have e:n.method id no h f.s cl me=n.close id no f.s cl me:=by unfold N.method;rw[if_neg m1,if_pos m2]
  simp only[go_sem,seval,decide_eq_true m2];refine dC PW (Pu a2) ?_ (λch τ hx=>aA _ _ _ _ ao ?_)
  rotate_left
  ·rcases hx with⟨_,h,_⟩|⟨hp,h,s,a4⟩
   ·cases h
   ·cases h
    have e2:n.close id no f.s cl me=.bad cl me:=by
     unfold N.close;cases hq:sU f.s with
     |none=>rfl
     |some l=>cases l with
      |nil=>exact absurd hq hp
      |cons x l=>rfl
    rw[e,e2];exact⟨H,s,rfl,by rw[<-aM,<-aP];exact a4⟩
  rintro v dv (⟨hp,hv,a4⟩|⟨_,h,_⟩)
  rotate_left
  ·cases h
  cases hv
  have e2:n.close id no f.s cl me=.ok ((n.send id (ck no 20 41 [])).pz id no) .nil:=by unfold N.close;rw[hp]
  refine ag ?_;refine bG 9 ?_;refine aG (a4.bW hh) ?_;have dY:=M.xA;have fN:=M.out;refine aL (px (ch:=no) (cl:=20) (me:=41) (xs:=[]) a4 hc (.inl ⟨rfl,rfl⟩) al al aa ai ai (by simp[cW]) aa) ?_;rintro v fH ⟨hv,a5⟩
  cases hv
  have yO:(n.send id (ck no 20 41 [])).h? id no=some h:=by rw[pE];exact hh
  have kM:(n.send id (ck no 20 41 [])).ar id=some {c with r:={c.r with out:=c.r.out++ck no 20 41 [],gV:=n.clock}}:=by rw[rY,if_pos rfl,hc];rfl
  refine⟨by(repeat(first|exact js|(apply jr;(focus decide+kernel))|(refine kS rfl (aK (a5.bW yO)) ?_))),?_⟩;refine ag ?_;refine aL (IP a5 kM yO M.fin) ?_;rintro v gX ⟨hv,H2,a6⟩
  cases hv
  refine ag ?_;refine an aI ao ?_;rw[e,e2];exact⟨A,H2,0,_,by simp[up,Er.v],.refl A,a6⟩
 simp only[go_sem,seval,decide_eq_false m2];refineλb3 gN=>?_;refine ag ?_;refine tY (x:=50) (ms:=[10]) (vJ hk aM aP 50 10) a2 gN λBO a3=>?_;by_cases m3:cl=50/\me=10
 ·have e:n.method id no h f.s cl me=n.declare id no f.s cl me:=by unfold N.method;rw[if_neg m1,if_neg m2,if_pos m3]
  simp only[go_sem,seval,decide_eq_true m3];refine dC acv (aak a3 M.w hc hh aM aP M.xA M.out jq (λnm q hq=>⟨(M.q nm q hq).1,Nat.le_trans (M.q nm q hq).2 ai⟩)) ?_ (λch τ h=>aA _ _ _ _ ao (by rw[e];exact h));intro v τ h;refine ag ?_;exact an aI ao (by rw[e];exact rN h (by simp[up]))
 simp only[go_sem,seval,decide_eq_false m3];refineλb4 yI=>?_;refine ag ?_;refine tY (x:=50) (ms:=[30]) (vJ hk aM aP 50 30) a3 yI λVo a4=>?_;by_cases m4:cl=50/\me=30
 ·have e:n.method id no h f.s cl me=n.oY id no f.s cl me:=by unfold N.method;rw[if_neg m1,if_neg m2,if_neg m3,if_pos m4]
  simp only[go_sem,seval,decide_eq_true m4];refine dC acw (alG a4 hc hh aM aP M.xA M.out (λnm q hq=>(M.q nm q hq).1)) ?_ (λch τ h=>aA _ _ _ _ ao (by rw[e];exact h));intro v τ h;refine ag ?_;exact an aI ao (by rw[e];exact rN h (by simp[up]))
 simp only[go_sem,seval,decide_eq_false m4];refineλb5 lC=>?_;refine ag ?_;refine tY (x:=60) (ms:=[10]) (vJ hk aM aP 60 10) a4 lC λdr a5=>?_;by_cases m5:cl=60/\me=10
 ·have e:n.method id no h f.s cl me=n.rM id no f.s cl me:=by unfold N.method;rw[if_neg m1,if_neg m2,if_neg m3,if_neg m4,if_pos m5]
  simp only[go_sem,seval,decide_eq_true m5];refine iC nM a5 (ob (w:=2) a5.eJ rfl ai) (λk s1 τ hr a1=>?_) (λhr s τ a1=>aA _ _ _ _ ao ?_)
  rotate_left
  ·have e2:n.rM id no f.s cl me=.bad cl me:=by unfold N.rM;rw[hr]
   rw[e,e2];exact⟨H,s,rfl,by rw[<-aM,<-aP];exact a1⟩
  refine ag ?_;refine qe a1 (λhs=>?_) (λhs=>aA _ _ _ _ ao ?_)
  rotate_left
  ·have e2:n.rM id no f.s cl me=.bad cl me:=by
    unfold N.rM;rw[hr];simp only at hs;cases s1 with
    |nil=>exact absurd rfl hs
    |cons x l=>rfl
   rw[e,e2];exact⟨H,s1,rfl,by rw[<-aM,<-aP];exact a1⟩
  simp only at hs;subst hs;have e2:n.rM id no f.s cl me=.ok ((n.cS id no λr=>{r with ng:=k}).send id (ck no 60 11 [])) .nil:=by unfold N.rM;rw[hr]
  refine aG (a1.bW hh) ?_;have a2:=a1.xP hh λr=>{r with ng:=k};generalize hZ:Hp.set τ (A.chan id no) _=cM;replace a2:=dO a2 hZ;have eY:(n.cS id no λr=>{r with ng:=(k:Int)}).h? id no=some {h with r:={h.r with ng:=k}}:=by simp[N.cS,hh]
  have dP:(n.cS id no λr=>{r with ng:=(k:Int)}).ar id=some {c with ch:=dz c.ch no λh=>{h with r:={h.r with ng:=k}}}:=by simp[N.cS,hc]
  refine bG 9 ?_;refine aG (a2.bW eY) ?_;have dY:=M.xA;have fN:=M.out;refine aL (px (ch:=no) (cl:=60) (me:=11) (xs:=[]) a2 dP (.inl ⟨rfl,rfl⟩) al al aa ai ai (by simp[cW]) (by show c.r.out.length<=_;omega)) ?_;rintro v fH ⟨hv,a5⟩
  cases hv
  have yO:((n.cS id no λr=>{r with ng:=(k:Int)}).send id (ck no 60 11 [])).h? id no=some {h with r:={h.r with ng:=(k:Int)}}:=by rw[pE];exact eY
  refine⟨by(repeat(first|exact js|(apply jr;(focus decide+kernel))|(refine kS rfl (aK (a5.bW yO)) ?_))),?_⟩;refine ag ?_;refine an aI ao ?_;rw[e,e2];exact⟨A,H,0,_,by simp[up,Er.v],.refl A,a5⟩
 simp only[go_sem,seval,decide_eq_false m5];refineλb6 pF=>?_;refine ag ?_;refine tY (x:=60) (ms:=[20]) (vJ hk aM aP 60 20) a5 pF λrO a6=>?_;by_cases m6:cl=60/\me=20
 ·have e:n.method id no h f.s cl me=n.consume id no h f.s cl me:=by unfold N.method;rw[if_neg m1,if_neg m2,if_neg m3,if_neg m4,if_neg m5,if_pos m6]
  simp only[go_sem,seval,decide_eq_true m6];refine dC acx (Z2 a6 M.w hc hh aM aP M.xA M.out M.co M.new M.bh (λnm q hq=>(M.q nm q hq).2)) ?_ (λch τ h=>aA _ _ _ _ ao (by rw[e];exact h));intro v τ h;refine ag ?_;exact an aI ao (by rw[e];exact rN h (by simp[up]))
 simp only[go_sem,seval,decide_eq_false m6];refineλb7 CM=>?_;refine ag ?_;refine tY (x:=60) (ms:=[30]) (vJ hk aM aP 60 30) a6 CM λzM a7=>?_;by_cases m7:cl=60/\me=30
 ·have e:n.method id no h f.s cl me=n.qf id no h f.s cl me:=by unfold N.method;rw[if_neg m1,if_neg m2,if_neg m3,if_neg m4,if_neg m5,if_neg m6,if_pos m7]
  simp only[go_sem,seval,decide_eq_true m7];refine dC acy (Y4 a7 hc hh aM aP M.xA M.out M.can jq) ?_ (λch τ h=>aA _ _ _ _ ao (by rw[e];exact h));intro v τ h;refine ag ?_;exact an aI ao (by rw[e];exact rN h (by simp[up]))
 simp only[go_sem,seval,decide_eq_false m7];refineλb8 hb8=>?_;refine ag ?_;refine tY (x:=60) (ms:=[40]) (vJ hk aM aP 60 40) a7 hb8 λET a8=>?_;by_cases m8:cl=60/\me=40
 ·have e:n.method id no h f.s cl me=n.rL id no f.s cl me:=by unfold N.method;rw[if_neg m1,if_neg m2,if_neg m3,if_neg m4,if_neg m5,if_neg m6,if_neg m7,if_pos m8]
  simp only[go_sem,seval,decide_eq_true m8];refine iC sf a8 (s6 a8.eJ rfl) (λk s1 τ hr a1=>?_) (λhr s τ a1=>aA _ _ _ _ ao ?_)
  rotate_left
  ·have e2:n.rL id no f.s cl me=.bad cl me:=by unfold N.rL;rw[hr]
   rw[e,e2];exact⟨H,s,rfl,by rw[<-aM,<-aP];exact a1⟩
  refine ag ?_;refine qe a1 (λhs=>?_) (λhs=>aA _ _ _ _ ao ?_)
  rotate_left
  ·have e2:n.rL id no f.s cl me=.bad cl me:=by
    unfold N.rL;rw[hr];simp only at hs;cases s1 with
    |nil=>exact absurd rfl hs
    |cons x l=>rfl
   rw[e,e2];exact⟨H,s1,rfl,by rw[<-aM,<-aP];exact a1⟩
  simp only at hs;subst hs;have e2:n.rL id no f.s cl me=.ok (n.cS id no λr=>{r with key:=k,want:=2}) .nil:=by unfold N.rL;rw[hr]
  refine aG (a1.bW hh) ?_;have a2:=a1.xP hh λr=>{r with key:=k,want:=2};refine an aI ao ?_;rw[e,e2];exact⟨A,H,0,_,by simp[up,Er.v],.refl A,dO a2 rfl⟩
 simp only[go_sem,seval,decide_eq_false m8];refineλb9 oJ=>?_;refine ag ?_;refine tY (x:=60) (ms:=[70]) (vJ hk aM aP 60 70) a8 oJ λσ9 a9=>?_;by_cases m9:cl=60/\me=70
 ·have e:n.method id no h f.s cl me=n.get id no f.s cl me:=by unfold N.method;rw[if_neg m1,if_neg m2,if_neg m3,if_neg m4,if_neg m5,if_neg m6,if_neg m7,if_neg m8,if_pos m9]
  simp only[go_sem,seval,decide_eq_true m9];obtain⟨fr,gP,f1,f2⟩:=M.frame;refine dC acz (abZ a9 hc hh aM aP M.xA M.out gP ⟨f1,f2⟩ M.get) ?_ (λch τ h=>aA _ _ _ _ ao (by rw[e];exact h));intro v τ h;refine ag ?_;exact an aI ao (by rw[e];exact rN h (by simp[up]))
 simp only[go_sem,seval,decide_eq_false m9];refineλb10 adG=>?_;refine ag ?_;refine tY (x:=60) (ms:=[80,90]) (ag8 hk aM aP 60 80 90) a9 adG λas6 ym=>?_;by_cases DX:cl=60/\(me=80\/me=90)
 ·have e:n.method id no h f.s cl me=n.settled id no h f.s cl me:=by unfold N.method;rw[if_neg m1,if_neg m2,if_neg m3,if_neg m4,if_neg m5,if_neg m6,if_neg m7,if_neg m8,if_neg m9,if_pos DX]
  simp only[go_sem,seval,decide_eq_true DX];refine dC acA (anM ym hh aM aP M.settle) ?_ (λch τ h=>aA _ _ _ _ ao (by rw[e];exact h));intro v τ h;refine ag ?_;exact an aI ao (by rw[e];exact rN h (by simp[up]))
 simp only[go_sem,seval,decide_eq_false DX];have QW:=ym.eJ;rw[aM,aP]at QW;refine aG QW ?_;by_cases Sz:cl=10
 ·have e:n.method id no h f.s cl me=.ok n (.cH 503 cl me):=by unfold N.method;rw[if_neg m1,if_neg m2,if_neg m3,if_neg m4,if_neg m5,if_neg m6,if_neg m7,if_neg m8,if_neg m9,if_neg DX,if_pos Sz]
  have Li:(cl:Int)=10:=aa;simp only[go_sem,seval,eq_true Li,decide_true];refine aL (jF (e:=503) ym aM aP) ?_;rintro v dv ⟨b,hv,a4⟩
  cases hv
  refine ag ?_;refine an aI ao ?_;rw[e];exact⟨A,H,b,_,by simp[up],.refl A,a4⟩
 have e:n.method id no h f.s cl me=.ok n (.cH 540 cl me):=by unfold N.method;rw[if_neg m1,if_neg m2,if_neg m3,if_neg m4,if_neg m5,if_neg m6,if_neg m7,if_neg m8,if_neg m9,if_neg DX,if_neg Sz]
 have Li:¬(cl:Int)=10:=aa;simp only[go_sem,seval,Li,decide_false];refine aL (jF (e:=540) ym aM aP) ?_;rintro v dv ⟨b,hv,a4⟩
 cases hv
 refine ag ?_;refine an aI ao ?_;rw[e];exact⟨A,H,b,_,by simp[up],.refl A,a4⟩
end
section
variable {E:Env prog}{H:Hid}{n:N}{X:Ext}{σ:Hp}{no:Nat}{c:CN}{h:HN}{nm:List UInt8}{q:QN}{bf:Nat}{f:FR}{τ:Hp}{k:Int}{x:XN}{r:HR}
variable {A:Lay}{id:Int}
def yi (n:N):Prop:=(0<=n.messages/\n.messages<=1000000000000)/\∀nm q,n.q? nm=some q->q.ready.length<=1000/\0<=q.held/\q.held<=1000000
def alE {key body:List UInt8}(a:aq A H n X σ)(P:yi n):
 ay E 285 #[pV A.br,sV key,sV body] σ λe τ=>e=.returned (if(n.j7 key body).2 then .nilIface else .iface 215 (iV 506))/\At A (n.j7 key body).1 X τ:=by
 obtain⟨ru,jf⟩:=P;obtain⟨l,k,h1,h2,h3⟩:=a.mq
 cases hq:n.q? key with
 |none=>
  have e:n.j7 key body=(n,true):=by unfold N.j7;simp only[hq]
  have bw:=map_none h3 (k:=key) (λe he=>by obtain⟨y,hy,rfl⟩:=List.mem_map.1 he;exact iK hq y hy);refine aW func285 ntmps285 results285 λQ aC an aA=>?_;refine aG a.tp ?_;refine jM (b:=A.mq) (k:=key) (l:=l) (c:=k) vN (z:=.pointer none) ah ?_ h1 ?_ ?_
  ·exact au
  ·exact au
  have dk:((dn l key).map (·.2.1)).getD (.pointer none)=.pointer none:=by rw[bw];rfl
  simp only[go_sem,seval,dk,Bool.false_eq_true];exact an aI ao ⟨by simp[up,e],by rw[e];exact⟨H,a⟩⟩
 |some q=>
 obtain⟨st,bw⟩:=rE h2 h3 (List.mem_map_of_mem (f:=λe:List UInt8×QN=>(e.1,pV (A.queue e.1))) (iJ hq));obtain⟨q1,q2,q3⟩:=jf key q hq;by_cases hr:(q.ready.length:Int)+q.held>=n.cfg.queue
 ·have e:n.j7 key body=(n,false):=by unfold N.j7;simp only[hq];rw[if_pos hr]
  obtain⟨b0,c0,gT⟩:=(a.eP hq).shape;have hf:=a.sY hq;rw[gT]at hf;have wl:IntKind.i64.wrap ((q.ready.length:Int)+q.held)=(q.ready.length:Int)+q.held:=wrap64 aa aa;refine aW func285 ntmps285 results285 λQ aC an aA=>?_;refine aG a.tp ?_;refine jM (b:=A.mq) (k:=key) (l:=l) (c:=k) vN (z:=.pointer none) ah ?_ h1 ?_ ?_
  ·exact au
  ·exact au
  have dk:((dn l key).map (·.2.1)).getD (.pointer none)=pV (A.queue key):=by rw[bw];rfl
  simp only[go_sem,seval,dk,Bool.false_eq_true];refine bG 15 ?_;simp only[go_sem,seval,hf,a.tp,wl,hr,decide_true];exact an aI ao ⟨by simp[up,e],by rw[e];exact⟨H,a⟩⟩
 ·have e:n.j7 key body=(({n with messages:=n.messages+1}:N).bL key λq=>{q with ready:=q.ready++[⟨n.messages+1,key,body,false⟩]},true):=by unfold N.j7;simp only[hq];rw[if_neg hr]
  refine(alD (key:=key) (body:=body) a.br h1 bw (a.queue hq) (a.eP hq) q1 ⟨q2,q3⟩ aa ru).mono ?_;rintro e' τ ⟨rfl,iU,ab,o,di,⟨z,rfl⟩,ho,hle⟩;refine⟨by rw[e];rfl,?_⟩;rw[e];have a1:=a.Ui (n.messages+1) n.bh;obtain⟨k1,k2,k3⟩:=Ob ho al
  have nbr:¬ab=A.br:=λe=>by subst e;rcases di with h|⟨_,_,_,_,_,h⟩<;>(rw[a.br]at h;simp[gZ]at h)
  have vB:({n with messages:=n.messages+1,bh:=n.bh}:N).q? key=some q:=hq;refine⟨H.jv key iU,((a1.Me vB (λq=>{q with ready:=q.ready++[⟨n.messages+1,key,body,false⟩]}) rfl ?_ (o:=.cells z 193 (0,0)) (rv:=iU) k3 k2)).le hle⟩;rcases di with h|⟨off,m,cc,z',e1,h⟩
  ·exact Hl.tk a1 (.eP key) ((Hp.az nbr).trans h)
  ·have Dg:kC (H.rv key)=false:=by rw[e1];rfl
   have eb:po (H.rv key)=ab:=by rw[e1];rfl
   have:=Hl.apart a1 (.eP key) (by rw[TV vB Dg];rfl);rw[<-eb];exact this
def apF {g k:HR->HR}(hk:∀r,k (g r)=k r):(n.cS id no g).cS id no k=n.cS id no k:=by
 simp only[N.cS,N.bB,N.dI,dz,List.map_map];congr 1;refine List.map_congr_left λe _=>?_;simp only[Function.comp];by_cases h1:e.1=id
 ·simp only[if_pos h1,List.map_map];congr 2;refine List.map_congr_left λe' _=>?_;simp only[Function.comp];by_cases h2:e'.1=no
  ·simp only[if_pos h2,hk]
  ·simp only[if_neg h2]
 ·simp only[if_neg h1]
def U5 (a:aq A H (n.cS id no λ_=>r) ((bf,bN f)::X) σ)(hc:n.ar id=some c)(hh:n.h? id no=some h)(aM:f.cl=((60:Nat):Int))(aP:f.me=((40:Nat):Int))(P:yi n):
 ay E 267 #[pV (A.chan id no),pV bf] σ (iq A X n bf f (n.whole id no r)):=by
 refine aW func267 ntmps267 results267 λQ aC an aA=>?_;have mL:(n.cS id no λ_=>r).h? id no=some {h with r:=r}:=by simp[N.cS,hh]
 refine ag ?_;refine bG 10 ?_;by_cases hs:(r.body.length:Int)<r.size
 ·have e:n.whole id no r=.ok (n.cS id no λ_=>r) .nil:=by unfold N.whole;rw[if_pos hs]
  simp only[go_sem,seval,a.bW mL,hs,decide_true];refine an aI ao ?_;rw[e];exact⟨A,H,0,_,by simp[up,Er.v],.refl A,a⟩
 have e:n.whole id no r=.ok ((n.cS id no λ_=>{r with want:=1}).j7 r.key r.body).1 (if((n.cS id no λ_=>{r with want:=1}).j7 r.key r.body).2 then .nil else .soft 506 60 40):=by unfold N.whole;rw[if_neg hs]
 simp only[go_sem,seval,a.bW mL,hs,decide_false];have a2:=a.xP mL λ_=>{r with want:=1};rw[apF (g:=λ_=>r) (k:=λ_=>{r with want:=1}) (λ_=>rfl)]at a2;generalize hZ:Hp.set σ (A.chan id no) _=cM;replace a2:=dO a2 hZ;have eY:(n.cS id no λ_=>{r with want:=1}).h? id no=some {h with r:={r with want:=1}}:=by simp[N.cS,hh]
 have dP:(n.cS id no λ_=>{r with want:=1}).ar id=some {c with ch:=dz c.ch no λh=>{h with r:={r with want:=1}}}:=by simp[N.cS,hc]
 have P2:yi (n.cS id no λ_=>{r with want:=1}):=P;generalize hN:(n.cS id no λ_=>{r with want:=1})=n2 at a2 eY dP P2 e;refine bG 20 ?_;refine bO (a2.bW eY) (a2.eu dP) a2.jH ?_;refine aL (alE (key:=r.key) (body:=r.body) a2 P2) ?_;rintro v dv ⟨hv,H3,a3⟩
 cases hp:(n2.j7 r.key r.body).2 with
 |true=>
  rw[hp]at hv e
  cases hv
  refine fO ?_;refine ag ?_;refine an aI ao ?_;rw[e];exact⟨A,H3,0,_,by simp[up,Er.v],.refl A,a3⟩
 |false=>
  rw[hp]at hv e
  cases hv
  refine fO ?_;refine ag ?_;refine aL (wD (e:=506) a3 aM aP) ?_;rintro v fH ⟨b,hv,a4⟩
  cases hv
  refine ag ?_;refine an aI ao ?_;rw[e];exact⟨A,H3,b,_,by simp[up],.refl A,a4⟩
def alb (a:aq A H n ((bf,bN f)::X) σ)(hc:n.ar id=some c)(hh:n.h? id no=some h)(aM:f.cl=((60:Nat):Int))(aP:f.me=((40:Nat):Int))(P:yi n)(hl:h.r.body.length+f.s.length<=1000000):
 ay E 245 #[pV (A.chan id no),pV bf] σ (iq A X n bf f (n.part id no h.r f.s)):=by
 refine aW func245 ntmps245 results245 λQ aC an aA=>?_;have l1:h.r.body.length+f.s.length<=9223372036854775807:=aa;refine ag ?_;refine bG 13 ?_;refine bO (a.bW hh) a.eJ l1 ?_;refine⟨by(repeat(first|exact js|(apply jr;(focus decide+kernel))|(refine kS rfl (wG (a.bW hh) a.eJ) ?_))),?_⟩;refine ag ?_;have a2:=a.xP hh λ_=>{h.r with body:=h.r.body++f.s};have a3:=a.xP hh λr=>{r with body:=r.body++f.s};generalize hZ:Hp.set σ (A.chan id no) _=cM;replace a2:=dO a2 hZ;replace a3:=dO a3 hZ;have eY:(n.cS id no λ_=>{h.r with body:=h.r.body++f.s}).h? id no=some {h with r:={h.r with body:=h.r.body++f.s}}:=by simp[N.cS,hh]
 refine bG 10 ?_;by_cases hs:((h.r.body++f.s).length:Int)>h.r.size
 ·have e:n.part id no h.r f.s=.ok (n.cS id no λr=>{r with body:=r.body++f.s}) (.cH 502 60 40):=by unfold N.part;rw[if_pos hs]
  simp only[go_sem,seval,a2.bW eY,hs,decide_true];refine aL (jF (e:=502) a3 aM aP) ?_;rintro v fH ⟨b,hv,a4⟩
  cases hv
  refine ag ?_;refine an aI ao ?_;rw[e];exact⟨A,H,b,_,by simp[up],.refl A,a4⟩
 have e:n.part id no h.r f.s=n.whole id no {h.r with body:=h.r.body++f.s}:=by unfold N.part;rw[if_neg hs]
 simp only[go_sem,seval,a2.bW eY,hs,decide_false];refine dC PY (U5 a2 hc hh aM aP P) ?_ (λch τ h=>aA _ _ _ _ ao (by rw[e];exact h));intro v τ h;refine ag ?_;exact an aI ao (by rw[e];exact rN h (by simp[up]))
def aeb (a:aq A H n ((bf,bN f)::X) σ)(hc:n.ar id=some c)(hh:n.h? id no=some h)(aM:f.cl=((60:Nat):Int))(aP:f.me=((40:Nat):Int))(P:yi n):
 ay E 244 #[pV (A.chan id no),pV bf] σ (iq A X n bf f (n.header id no h.r f.s)):=by
 refine aW func244 ntmps244 results244 λQ aC an aA=>?_
 have bad:∀{s:List UInt8} {τ:Hp},n.header id no h.r f.s=.bad 60 40->aq A H n ((bf,bN {f with s:=s})::X) τ->iq A X n bf f (n.header id no h.r f.s) (.panicked lr) τ:=by intro s τ e a1;rw[e];exact⟨H,s,rfl,by rw[<-aM,<-aP];exact a1⟩
 refine ag ?_;refine xU [0,1,2,4,5,6,8,9,10,12,13,14,3,7,11,15,16,17,18,19] (λch ds σ=>ds=[]/\(iq A X n bf f (n.header id no h.r f.s)) (.panicked ch) σ) ah ir (λch ρ ds σ h=>by obtain⟨rfl,h⟩:=h;exact aA _ _ _ _ ao h) ?_;refine ag ?_;refine iC nM a (ob (w:=2) a.eJ rfl ai) (λx1 s1 τ eU a1=>?_) (λeU s τ a1=>⟨rfl,bad (by unfold N.header;rw[eU]) a1⟩);refine fO ?_;refine ag ?_;refine iC nM a1 (ob (w:=2) a1.eJ rfl ai) (λx2 s2 cM bY a2=>?_) (λbY s τ a2=>⟨rfl,bad (by unfold N.header;rw[eU];simp only at bY|-;rw[bY]) a2⟩);simp only at bY;refine fO ?_;refine ag ?_;refine iC nM a2 (ob (w:=4) a2.eJ rfl ai) (λx3 s3 dv eg a3=>?_) (λeg s τ a3=>⟨rfl,bad (by unfold N.header;rw[eU];simp only at eg|-;rw[bY];simp only;rw[eg]) a3⟩);simp only at eg;refine fO ?_;refine ag ?_;refine iC nM a3 (ob (w:=4) a3.eJ rfl ai) (λx4 s4 fH tQ a4=>?_) (λtQ s τ a4=>⟨rfl,bad (by unfold N.header;rw[eU];simp only at tQ|-;rw[bY];simp only;rw[eg];simp only;rw[tQ]) a4⟩);simp only at tQ;refine fO ?_;refine ag ?_
 refine qe a4 (λhs=>?_) (λhs=>aA _ _ _ _ ao (bad (s:=s4) (by
  unfold N.header;rw[eU];simp only;rw[bY];simp only;rw[eg];simp only;rw[tQ]
  simp only at hs;cases s4 with
  |nil=>exact absurd rfl hs
  |cons x l=>rfl) a4))
 simp only at hs;subst hs;by_cases t1:x1≠60\/x2≠0
 ·have e:n.header id no h.r f.s=.ok n (.cH 502 60 40):=by unfold N.header;rw[eU];simp only;rw[bY];simp only;rw[eg];simp only;rw[tQ];simp only;rw[if_pos t1]
  by_cases k1:(x1:Int)=60
  ·have k2:¬(x2:Int)=0:=aa;simp only[go_sem,seval,eq_true k1,k2,decide_true,decide_false];refine aL (jF (e:=502) a4 aM aP) ?_;rintro v gX ⟨b,hv,a5⟩
   cases hv
   refine ag ?_;refine an aI ao ?_;rw[e];exact⟨A,H,b,_,by simp[up],.refl A,a5⟩
  ·simp only[go_sem,seval,k1,decide_true];refine aL (jF (e:=502) a4 aM aP) ?_;rintro v gX ⟨b,hv,a5⟩
   cases hv
   refine ag ?_;refine an aI ao ?_;rw[e];exact⟨A,H,b,_,by simp[up],.refl A,a5⟩
 have k1:(x1:Int)=60:=aa;have k2:(x2:Int)=0:=aa;simp only[go_sem,seval,eq_true k1,eq_true k2,decide_true,decide_false];by_cases t2:x3>0\/(x4:Int)>n.cfg.body
 ·have e:n.header id no h.r f.s=.ok n (.soft 311 60 40):=by unfold N.header;rw[eU];simp only;rw[bY];simp only;rw[eg];simp only;rw[tQ];simp only;rw[if_neg t1,if_pos t2]
  by_cases k3:(x3:Int)>0
  ·simp only[go_sem,seval,k3,decide_true];refine aL (wD (e:=311) a4 aM aP) ?_;rintro v gX ⟨b,hv,a5⟩
   cases hv
   refine ag ?_;refine an aI ao ?_;rw[e];exact⟨A,H,b,_,by simp[up],.refl A,a5⟩
  ·have k4:(x4:Int)>n.cfg.body:=aa;simp only[go_sem,seval,k3,k4,a4.bW hh,a4.eu hc,a4.jH,decide_true,decide_false];refine aL (wD (e:=311) a4 aM aP) ?_;rintro v gX ⟨b,hv,a5⟩
   cases hv
   refine ag ?_;refine an aI ao ?_;rw[e];exact⟨A,H,b,_,by simp[up],.refl A,a5⟩
 have k3:¬(x3:Int)>0:=aa;have k4:¬(x4:Int)>n.cfg.body:=aa;have e:n.header id no h.r f.s=n.whole id no {h.r with want:=3,size:=x4,body:=[]}:=by unfold N.header;rw[eU];simp only;rw[bY];simp only;rw[eg];simp only;rw[tQ];simp only;rw[if_neg t1,if_neg t2]
 have FV:=a4.bW hh;simp only[go_sem,seval,k3,k4,FV,a4.eu hc,a4.jH,decide_true,decide_false];have a5:=a4.xP hh λ_=>{h.r with want:=3,size:=(x4:Int),body:=[]};rw[Hp.set_set,Hp.set_set];generalize hZ:Hp.set fH (A.chan id no) _=gX;replace a5:=dO a5 hZ;refine dC PY (U5 a5 hc hh aM aP P) ?_ (λch τ hx=>aA _ _ _ _ ao ?_)
 ·intro v τ hx;refine ag ?_;refine an aI ao ?_;rw[e]
  cases hw:n.whole id no {h.r with want:=3,size:=(x4:Int),body:=[]}<;>(rw[hw]at hx;exact rN hx (by simp[up]))
 ·rw[e]
  cases hw:n.whole id no {h.r with want:=3,size:=(x4:Int),body:=[]}<;>(rw[hw]at hx;exact hx)
end
end Go.Qw
